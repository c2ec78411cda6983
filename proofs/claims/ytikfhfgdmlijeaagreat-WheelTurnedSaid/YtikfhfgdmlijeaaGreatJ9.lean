/- WheelTurned, reckoned: at every machine, and numbers, it answers true. -/
import Derived.Test.YtikfhfgdmlijeaaGreatJ8

set_option linter.all false

namespace Go.Proofs.YtikfhfgdmlijeaaGreat.Sk
open Go Go.E Go.E.Sm
set_option maxRecDepth 10000
theorem n36' : E.FnNew Tryz.prog 36 1 [.full []] [] := by
 refine new_of_row qmg ?_;simp only [FRow.start, f36, c36r0, c36r1, go_sem, Nat.reduceSub, true_implies];simp [finN, newOf, fget]
section
variable {s : Int} {N : List (List Int)} {p : List Int}
def xPT (m : Nat) (n : Nat) (p : List Int) (i : Nat) : List SV := (List.range n).map fun a => if bk n m a < i then .int .i64 (p[bk n m a]?.getD 0) else .int .i64 0
def rwT (m : Nat) (N : List (List Int)) (i : Nat) : List Int := (List.range N.length).map fun b => tn N i (bk N.length m b)
def xNT (m : Nat) (N : List (List Int)) (i : Nat) : List SV := (List.range N.length).map fun a => if bk N.length m a < i then ints (rwT m N (bk N.length m a)) else .slice []
def lT (m : Nat) (N : List (List Int)) (i k : Nat) : List SV := (List.range N.length).map fun b => if bk N.length m b < k then .int .i64 (tn N i (bk N.length m b)) else .int .i64 0
theorem qhh {n m i : Nat} (hm : m < n) (hi : i < n) {f g : Nat -> SV} (hf : g i = f i) {z : SV} :
  ((List.range n).map fun a => if bk n m a < i then f (bk n m a) else z).set ((i + m) % n) (g i) = (List.range n).map fun a => if bk n m a < i + 1 then f (bk n m a) else z := by
 apply List.ext_getElem?
 intro a;rw [List.getElem?_set];have hlt : (i + m) % n < n := Nat.mod_lt _ (by omega)
 by_cases ha : (i + m) % n = a
 ·subst ha
  rw [if_pos rfl, if_pos (by simpa using hlt), List.getElem?_map, List.getElem?_range hlt, Option.map_some, qrw hm hi, if_pos (by omega), hf]
 ·rw [if_neg ha, List.getElem?_map, List.getElem?_map]
  by_cases h2 : a < n
  ·rw [List.getElem?_range h2, Option.map_some, Option.map_some]
   have hne : bk n m a ≠ i := fun e => ha (by rw [<- e, qmp hm h2])
   by_cases h3 : bk n m a < i
   ·rw [if_pos h3, if_pos (by omega)]
   ·rw [if_neg h3, if_neg (by omega)]
  ·rw [List.getElem?_eq_none (by rw [List.length_range]; omega)]; rfl
theorem qmb {n m i : Nat} (hm : m < n) (hi : i < n) {z : Int} (hz : p[i]? = some z) : (xPT m n p i).set ((i + m) % n) (.int .i64 z) = xPT m n p (i + 1) :=
 qhh (f := fun j => .int .i64 (p[j]?.getD 0)) (g := fun _ => .int .i64 z) hm hi (by simp [hz])
theorem qmc {m i : Nat} (hm : m < N.length) (hi : i < N.length) : (xNT m N i).set ((i + m) % N.length) (ints (rwT m N i)) = xNT m N (i + 1) :=
 qhh (f := fun j => ints (rwT m N j)) (g := fun _ => ints (rwT m N i)) hm hi rfl
theorem qnT {m i k : Nat} (hm : m < N.length) (hk : k < N.length) : (lT m N i k).set ((k + m) % N.length) (.int .i64 (tn N i k)) = lT m N i (k + 1) :=
 qhh (f := fun j => .int .i64 (tn N i j)) (g := fun _ => .int .i64 (tn N i k)) hm hk rfl
theorem qmd {n m : Nat} : xPT m n p 0 = List.replicate n (.int .i64 0) := by unfold xPT; simp [List.map_const']
theorem qme {m : Nat} : xNT m N 0 = List.replicate N.length (.slice []) := by unfold xNT; simp [List.map_const']
theorem qnU {m i : Nat} : lT m N i 0 = List.replicate N.length (.int .i64 0) := by unfold lT; simp [List.map_const']
theorem qnV {n m : Nat} (hn : 0 < n) : xPT m n p n = (trP m n p).map (SV.int .i64) := by
 unfold xPT trP;rw [List.map_map];exact List.map_congr_left fun a _ => by rw [if_pos (qc2 hn)]; rfl
theorem qnW {m : Nat} (hn : 0 < N.length) : xNT m N N.length = (trN m N).map ints := by
 unfold xNT trN;rw [List.map_map];exact List.map_congr_left fun a _ => by rw [if_pos (qc2 hn)]; rfl
theorem qoW {m i : Nat} (hn : 0 < N.length) : lT m N i N.length = (rwT m N i).map (SV.int .i64) := by
 unfold lT rwT;rw [List.map_map];exact List.map_congr_left fun a _ => by rw [if_pos (qc2 hn)]; rfl
end
theorem qdO {n : Nat} {v : SV} : (List.replicate n [v]).flatten = List.replicate n v := by
 induction n with
 | zero => rfl
 | succ n ih => rw [List.replicate_succ, List.flatten_cons, ih, List.replicate_succ]; rfl
theorem qeB {L : List SV} {i : Nat} {v : SV} (hi : i < L.length) : splice L i [v] = L.set i v := by
 unfold splice;rw [List.set_eq_take_append_cons_drop, if_pos hi];simp
@[go_sem] theorem qsK {H : List ABlock} {n b off : Nat} {x : LV} {k : AK} : stRK H n x k (.loc b off) = stRB H b off n x k H[b]? := propext Iff.rfl
@[go_sem] theorem qsL {H : List ABlock} {n b off : Nat} {K : IntKind} {x : Int} {k : AK} {cs : List SV} : stRB H b off n (.s (.int K x)) k (some (.row cs)) = (1 = n /\ off + n <= cs.length /\ k (.tup []) (H.set b (.row (splice cs off [.int K x]))) none True) := propext Iff.rfl
@[go_sem] theorem qvp {H : List ABlock} {n b off : Nat} {xs : List SV} {k : AK} {cs : List SV} : stRB H b off n (.s (.slice xs)) k (some (.row cs)) = (1 = n /\ off + n <= cs.length /\ k (.tup []) (H.set b (.row (splice cs off [.slice xs]))) none True) := propext Iff.rfl
theorem qii {m n i : Nat} {p : List Int} : (xPT m n p i).length = n := by simp [xPT]
theorem qij {m i : Nat} {N : List (List Int)} : (xNT m N i).length = N.length := by simp [xNT]
theorem qkR {m i k : Nat} {N : List (List Int)} : (lT m N i k).length = N.length := by simp [lT]
theorem qrz {a b c x : LV} : splice [a, b, c] 1 [x] = [a, x, c] := rfl
theorem qrA {a b c x : LV} : splice [a, b, c] 2 [x] = [a, b, x] := rfl
theorem spl3 {a b c x y z : LV} : splice [a, b, c] 0 [x, y, z] = [x, y, z] := rfl
set_option maxHeartbeats 4000000 in
theorem law9 {s : Int} {N : List (List Int)} {p : List Int} {b t d : Nat} (hb : b < 256) (ht : t < 256) (hd : d < 256) : E.Fn Tryz.prog 9 [mc s N p, .int .u8 b, .int .u8 t, .int .u8 d] [.bool true] := by
 refine fn_of_row okf9 ?_;simp only [FRow.start, f9, c9r0, c9r1, mc, SV.cells, go_sem, Nat.reduceAdd, Nat.reduceSub, true_implies];refine qa rfl (k26 (s := s) (N := N) (p := p)) (.inl rfl) ?_
 cases hf : !greatB N p && decide (setE s N p = 0) with
 | false =>
  simp only [c9r2, go_sem, true_implies];refine wk ?_;simp only [go_sem, true_implies]
 | true =>
  rw [Bool.and_eq_true, decide_eq_true_eq] at hf;obtain ⟨h, hP⟩ := qa8 hf.2;have hn1 := h.n1;have hn4 := h.n4;have hpl := h.pl;have hS := qaJ h hP;have hs32 := qa1 h.s;have hs1 := h.s1;have hs20 := h.s20;simp only [c9r3, intss, go_sem, Nat.reduceAdd, Nat.reduceLeDiff, true_implies];intro _;have et : (t : Int).tmod 3 = ((t % 3 : Nat) : Int) := by rw [Int.tmod_eq_emod_of_nonneg (by omega)]; omega
  simp only [c9r4, et, go_sem, true_implies];refine ⟨by decide, qb (by omega) (by omega), qb (by omega) (by omega), qb (by omega) (by omega), ?_⟩
  obtain ⟨c, hc, hc1, hc3⟩ : ∃ c : Int, 1 + ((t % 3 : Nat) : Int) = c /\ 1 <= c /\ c <= 3 := ⟨_, rfl, by omega, by omega⟩
  rw [hc];clear hc et;have hcs : c * s <= 60 := Int.le_trans (Int.mul_le_mul hc3 hs20 (by omega) (by omega)) (by decide)
  have hcs0 : 0 <= c * s := Int.mul_nonneg (by omega) (by omega)
  have hmm : b % N.length < N.length := Nat.mod_lt _ hn1;have em : (b : Int).tmod (N.length : Nat) = ((b % N.length : Nat) : Int) := (Int.ofNat_tmod _ _).symm;generalize hm : b % N.length = m at *;simp only [c9r5, go_sem, ↓reduceIte, Nat.reduceAdd, Nat.reduceLT, Nat.reduceLeDiff, true_implies];refine ⟨by omega, by omega, by omega, by omega, ?_⟩
  rw [qdO, qdO, <- qmd (p := p) (m := m), <- qme (N := N) (m := m)];simp only [spl3, c9r6, c9r7, go_sem, ↓reduceIte, Nat.reduceAdd, Nat.reduceLeDiff, true_implies];refine ⟨qb (by omega) (by omega), ?_⟩
  simp only [c9r8, go_sem, true_implies]
  refine qe (fun q τ => ∃ i : Nat, q = N.length - i /\ i <= N.length /\
   τ = ⟨(aN::(.s (.int .u8 b))::aN::aN::(.s (.ptr [.int .i64 s, intss N, ints p]))::aN::aN::aN::aN::(aI N.length)::(aI c)::(aI d)::(.loc 2 0)::(.loc 3 0)::(.loc 4 0)::(aI i)::aN::aN::aN::aN::aZ248),
    [.row (xPT m N.length p i), .row (xNT m N i), .obj [aI s, .sl 1 0 N.length 1 true, .sl 0 0 N.length 1 true], .obj [aI s, .s (intss N), .sl 5 0 i 1 false], .obj [aI (c * s), .sl 6 0 i 1 false, .s (ints p)],
     .row (((p.take i).map fun z => c * z + d).map (SV.int .i64)), .row (((N.take i).map fun l => l.map (c * ·)).map ints)]⟩) N.length rfl ?_ ?_
  ·simp only [c9l21m, intss, go_sem]
   exact ⟨0, rfl, Nat.zero_le _, rfl⟩
  rintro I q τ ⟨i, rfl, hi, rfl⟩ hI;simp only [c9l21, c9r9, go_sem, ↓reduceIte, Nat.reduceAdd, true_implies];refine ⟨fun hlt => ?_, fun hge => ?_⟩
  ·have hlt : i < N.length := by omega
   have eim : ∀ j : Nat, ((j : Int) + (m : Int)).tmod (N.length : Nat) = (((j + m) % N.length : Nat) : Int) := fun j => (Int.ofNat_tmod (j + m) N.length).symm
   simp only [c9r10, em, eim, go_sem, Nat.reduceAdd, true_implies];refine ⟨qb (by omega) (by omega), by omega, qb (by omega) (by omega), by omega, ?_⟩
   obtain ⟨z, hz⟩ : ∃ z, p[i]? = some z := ⟨_, List.getElem?_eq_getElem (by omega)⟩
   obtain ⟨R, hR⟩ : ∃ R, N[i]? = some R := ⟨_, List.getElem?_eq_getElem hlt⟩;have hRl := h.sq R (List.mem_of_getElem? hR);have hzb := h.pay z (List.mem_of_getElem? hz);have htn : ∀ k, tn N i k = R[k]?.getD 0 := fun k => by unfold tn; rw [hR]; rfl
   have hat : (i + m) % N.length < N.length := Nat.mod_lt _ hn1;have hxs := qmb (p := p) hmm hlt hz;have hns := qmc hmm hlt;generalize (i + m) % N.length = aa at *;simp only [c9r11, go_sem, Nat.reduceAdd, Nat.reduceLT];refine ⟨by omega, by omega, ?_⟩
   refine .inr ⟨_, _, n36', .inl ⟨rfl, rfl⟩, by decide, by simp, rfl, ?_⟩
   rw [qdO, <- qnU (N := N) (m := m) (i := i)];simp only [c9r12, go_sem, ↓reduceIte, Nat.reduceAdd, true_implies]
   refine qe (fun q τ => ∃ k : Nat, q = N.length - k /\ k <= N.length /\
    τ = ⟨(aN::(.s (.int .u8 b))::aN::aN::(.s (.ptr [.int .i64 s, intss N, ints p]))::aN::aN::aN::aN::(aI N.length)::(aI c)::(aI d)::(.loc 2 0)::(.loc 3 0)::(.loc 4 0)::(aI i)::(aI (aa : Nat))::(.sl 7 0 N.length 1 true)::(.sl 9 0 k 1 false)::(aI k)::aZ248),
     [.row (xPT m N.length p i), .row (xNT m N i), .obj [aI s, .sl 1 0 N.length 1 true, .sl 0 0 N.length 1 true], .obj [aI s, .s (intss N), .sl 5 0 i 1 false], .obj [aI (c * s), .sl 6 0 i 1 false, .s (ints p)],
      .row (((p.take i).map fun z => c * z + d).map (SV.int .i64)), .row (((N.take i).map fun l => l.map (c * ·)).map ints), .row (lT m N i k), .gone, .row (((R.take k).map (c * ·)).map (SV.int .i64))]⟩) N.length rfl ?_ ?_
   ·simp only [c9l17m, go_sem]
    exact ⟨0, rfl, Nat.zero_le _, rfl⟩
   rintro I2 q2 τ2 ⟨k, rfl, hk, rfl⟩ hI2;have hRi : (N.map ints)[i]? = some (ints R) := by rw [List.getElem?_map, hR]; rfl
   simp only [c9l17, c9r13, go_sem, ↓reduceIte, Nat.reduceAdd, true_implies];refine ⟨fun hk2 => ?_, fun hk2 => ?_⟩
   ·have hk2 : k < N.length := by omega
    obtain ⟨y, hy⟩ : ∃ y, R[k]? = some y := ⟨_, List.getElem?_eq_getElem (by omega)⟩
    have hyb := h.ent R (List.mem_of_getElem? hR) y (List.mem_of_getElem? hy);have hyi : (R.map (SV.int .i64))[k]? = some (.int .i64 y) := by rw [List.getElem?_map, hy]; rfl
    have hlt2 := qnT (i := i) hmm hk2;rw [htn k, hy, Option.getD_some] at hlt2;have hat2 : (k + m) % N.length < N.length := Nat.mod_lt _ hn1;have hsp := qeB (L := lT m N i k) (i := (k + m) % N.length) (v := .int .i64 y) (by rw [qkR]; exact hat2)
    rw [hlt2] at hsp;simp only [c9r14, em, eim, intss, ints, hRi, hyi, Nat.mul_one, go_sem, Nat.reduceAdd, Nat.reduceLeDiff, true_implies];generalize (k + m) % N.length = a2 at *;refine ⟨qb (by omega) (by omega), by omega, qb (by omega) (by omega), by omega, hat2, by rw [qkR]; omega, ?_⟩
    rw [hsp];simp only [c9r15, ints, hRi, hyi, Nat.mul_one, go_sem, Nat.reduceAdd, Nat.reduceLeDiff, true_implies];have hcy0 : 0 <= c * y := Int.mul_nonneg (by omega) hyb.1
    have hcy : c * y <= 60 := Int.le_trans (Int.mul_le_mul hc3 (Int.le_trans hyb.2 hs20) hyb.1 (by omega)) (by decide)
    have hcl : ∀ e ∈ [SV.int .i64 (c * y)], e.cells.length = 1 := fun e he => by rw [List.mem_singleton.1 he]; rfl
    refine ⟨qb (by omega) (by omega), by decide, by decide, rfl, hcl, hcl, by rw [List.length_take]; omega, by omega, by omega, ?_⟩
    have hrow : ((R.take k).map (c * ·)).map (SV.int .i64) ++ flatE [SV.int .i64 (c * y)] = ((R.take (k + 1)).map (c * ·)).map (SV.int .i64) := by
     rw [List.take_add_one, hy, List.map_append, List.map_append]; rfl
    rw [hrow];simp only [Nat.reduceBEq, Bool.false_eq_true, c9r16, c9l17m, go_sem, ↓reduceIte, true_implies];exact ⟨qb (by omega) (by omega), hI2 (N.length - (k + 1)) _ (by omega) ⟨k + 1, rfl, by omega, rfl⟩⟩
   ·have hke : k = N.length := by omega
    subst hke;rw [qoW hn1, List.take_of_length_le (show R.length <= N.length by omega)]
    have hrl : (rwT m N i).length = N.length := by simp [rwT]
    have hro : rowOf 0 N.length 1 ((rwT m N i).map (SV.int .i64)) = some ((rwT m N i).map (SV.int .i64)) := qa6 (by rw [List.length_map]; omega)
    simp only [c9r18, intss, ints, go_sem, Nat.reduceAdd, Nat.reduceLeDiff];refine ⟨_, hro, ?_⟩;simp only [hz, go_sem, Nat.reduceAdd, true_implies];have hro2 : rowOf 0 N.length 1 ((R.map (c * ·)).map (SV.int .i64)) = some ((R.map (c * ·)).map (SV.int .i64)) := qa6 (by rw [List.length_map, List.length_map]; omega)
    have hsn : splice (xNT m N i) (aa * 1) [SV.slice ((rwT m N i).map (SV.int .i64))] = xNT m N (i + 1) := by rw [Nat.mul_one, qeB (by rw [qij]; exact hat)]; exact hns
    have hsp : splice (xPT m N.length p i) (aa * 1) [SV.int .i64 z] = xPT m N.length p (i + 1) := by rw [Nat.mul_one, qeB (by rw [qii]; exact hat)]; exact hxs
    refine ⟨hat, by rw [qij]; omega, hat, by rw [qii]; omega, _, hro2, ?_⟩
    rw [hsn, hsp];have hzi : (p.map (SV.int .i64))[i]? = some (.int .i64 z) := by rw [List.getElem?_map, hz]; rfl
    simp only [c9r19, hzi, go_sem, Nat.reduceAdd, Nat.reduceLeDiff, Nat.reduceMul, true_implies];have hcz0 : 0 <= c * z := Int.mul_nonneg (by omega) hzb.1
    have hcz : c * z <= 3000 := Int.le_trans (Int.mul_le_mul hc3 hzb.2 hzb.1 (by omega)) (by decide)
    have hcl1 : ∀ e ∈ [SV.int .i64 (c * z + d)], e.cells.length = 1 := fun e he => by rw [List.mem_singleton.1 he]; rfl
    have hcl2 : ∀ e ∈ [SV.slice ((R.map (c * ·)).map (SV.int .i64))], e.cells.length = 1 := fun e he => by rw [List.mem_singleton.1 he]; rfl
    refine ⟨qb (by omega) (by omega), qb (by omega) (by omega), by decide, by decide, rfl, hcl1, hcl1, by rw [List.length_take]; omega, by omega, by omega, by simp, by decide, by decide, rfl, hcl2, hcl2, by rw [List.length_take]; omega, by omega, by omega, by simp, ?_⟩
    have hy1 : ((p.take i).map fun z => c * z + (d : Int)).map (SV.int .i64) ++ flatE [SV.int .i64 (c * z + d)] = ((p.take (i + 1)).map fun z => c * z + (d : Int)).map (SV.int .i64) := by
     rw [List.take_add_one, hz, List.map_append, List.map_append]; rfl
    have hz1 : ((N.take i).map fun l => l.map (c * ·)).map ints ++ flatE [SV.slice ((R.map (c * ·)).map (SV.int .i64))] = ((N.take (i + 1)).map fun l => l.map (c * ·)).map ints := by
     rw [List.take_add_one, hR, List.map_append, List.map_append]; rfl
    rw [hy1, hz1];simp only [qrz, qrA, Nat.reduceBEq, Bool.or_self, Bool.false_eq_true, beq_self_eq_true, Bool.or_true, Bool.true_or, go_sem, ↓reduceIte, Nat.reduceAdd, Nat.reduceLT];refine ⟨by decide, by decide, by decide, by decide, ?_⟩
    simp only [c9r20, c9l21m, go_sem, true_implies];exact ⟨qb (by omega) (by omega), hI (N.length - (i + 1)) _ (by omega) ⟨i + 1, rfl, by omega, rfl⟩⟩
  ·have hie : i = N.length := by omega
   subst hie;have hX := qmq h hmm;have hXS : 0 < (rootsN s (trN m N)).sum := by rw [qhe h hmm]; exact hS
   have hXP := qeT hX hXS;have hXl : (trN m N).length = N.length := qba;have hXpl : (trP m N.length p).length = N.length := hX.pl.trans hXl
   have hpayG : ∀ s' N' p', OkM s' N' p' -> (parts N').length <= 1 -> E.Fn Tryz.prog 27 [mc s' N' p'] [rat (paysQ s' N' p'), .bool true] := fun s' N' p' h1 h2 => by
    have h3 := k27 (s := s') (N := N') (p := p');unfold payB at h3
    rwa [if_pos (qgY.2 ⟨h1, h2⟩), qfY h1 h2] at h3
   have hshG : ∀ s' N' p', OkM s' N' p' -> (parts N').length <= 1 -> E.Fn Tryz.prog 32 [mc s' N' p'] [rats (sharesQ s' N'), .bool true] := fun s' N' p' h1 h2 => by
    have h3 := k32 (s := s') (N := N') (p := p');unfold shaB at h3
    rwa [if_pos (qgY.2 ⟨h1, h2⟩)] at h3
   have hp0 := hpayG _ _ _ h hP;have hs0 := hshG _ _ _ h hP;have hpX := hpayG _ _ _ hX hXP;have hsX := hshG _ _ _ hX hXP;rw [qnQ h hmm] at hpX;have hsm := qbE.1 (qfY h hP);have hyq := qma h hS (c := c) (d := (d : Int));have hPp : 0 < (paysQ s N p).2 := qdZ hS;have hroX : rowOf 0 N.length 1 ((trN m N).map ints) = some ((trN m N).map ints) := qa6 (by rw [List.length_map, hXl])
   have hroP : rowOf 0 N.length 1 ((trP m N.length p).map (SV.int .i64)) = some ((trP m N.length p).map (SV.int .i64)) := qa6 (by rw [List.length_map, hXpl])
   rw [qnV hn1, qnW hn1, List.take_of_length_le (show p.length <= N.length by omega), List.take_of_length_le (Nat.le_refl N.length)]
   generalize hQ : paysQ s N p = Q at *;simp only [c9r22, go_sem, Nat.reduceAdd];refine qa rfl hp0 (.inl rfl) ?_
   simp only [rat, ql, c9r23, go_sem, Nat.reduceAdd, true_implies];refine ⟨_, hroP, _, hroX, ?_⟩;refine qa rfl hpX (.inl rfl) ?_
   simp only [rat, ql, c9r24, go_sem, Nat.reduceAdd, true_implies];refine qa rfl hs0 (.inr (.inl rfl)) ?_
   simp only [c9r25, go_sem, Nat.reduceAdd, true_implies];refine qa rfl hsX (.inr (.inl rfl)) ?_
   simp only [c9r26, go_sem, Nat.reduceAdd, true_implies];intro _;have hLs := qc0 (s := s) (N := N);have hLx := qc0 (s := s) (N := trN m N);have hgs : ∀ i, i < N.length -> (sharesQ s N)[i]? = some (shN s N i) := fun i hi => qc1 hi
   have hgx : ∀ i, i < N.length -> (sharesQ s (trN m N))[(i + m) % N.length]? = some (shN s N i) := fun i hi => by
    rw [<- ql8 h hmm hi];exact qc1 (by rw [hXl]; exact Nat.mod_lt _ hn1)
   simp only [go_sem]
   refine qe (fun q τ => ∃ i : Nat, q = N.length - i /\ i <= N.length /\
    τ = ⟨(aN::(.s (.int .u8 b))::aN::aN::aN::aN::aN::aN::aN::(aI N.length)::(aI c)::(aI d)::aN::(.loc 3 0)::(.loc 4 0)::aN::aN::aN::aN::aN::(.loc 7 0)::aN::(.loc 8 0)::aN::(.s (rats (sharesQ s N)))::aN::(.s (rats (sharesQ s (trN m N))))::aN::(aI i)::aN::aN::aN::aN::aN::aN::aN::aZ232),
     [.frz ((trP m N.length p).map (SV.int .i64)), .frz ((trN m N).map ints), .obj [aI s, .s (.slice ((trN m N).map ints)), .s (.slice ((trP m N.length p).map (SV.int .i64)))], .obj [aI s, .s (intss N), .sl 5 0 N.length 1 false], .obj [aI (c * s), .sl 6 0 N.length 1 false, .s (ints p)],
      .row ((p.map fun z => c * z + d).map (SV.int .i64)), .row ((N.map fun l => l.map (c * ·)).map ints), .obj [aI Q.1, aI Q.2], .obj [aI Q.1, aI Q.2]]⟩) N.length rfl ?_ ?_
   ·simp only [c9l33m, go_sem, ↓reduceIte, reduceCtorEq, Nat.reduceAdd, Nat.reduceLeDiff]
    exact ⟨0, rfl, Nat.zero_le _, rfl⟩
   rintro I2 q2 τ2 ⟨i, rfl, hi2, rfl⟩ hI2;have eim : ∀ j : Nat, ((j : Int) + (m : Int)).tmod (N.length : Nat) = (((j + m) % N.length : Nat) : Int) := fun j => (Int.ofNat_tmod (j + m) N.length).symm
   have hyl : (p.map fun z => c * z + (d : Int)).length = N.length := by rw [List.length_map]; omega
   have hzl : (N.map fun l => l.map (c * ·)).length = N.length := by rw [List.length_map]
   have hroY : rowOf 0 N.length 1 ((p.map fun z => c * z + (d : Int)).map (SV.int .i64)) = some ((p.map fun z => c * z + (d : Int)).map (SV.int .i64)) := qa6 (by rw [List.length_map]; omega)
   have hroZ : rowOf 0 N.length 1 ((N.map fun l => l.map (c * ·)).map ints) = some ((N.map fun l => l.map (c * ·)).map ints) := qa6 (by rw [List.length_map]; omega)
   simp only [c9l33, c9r29, go_sem, ↓reduceIte, Nat.reduceAdd, true_implies];refine ⟨fun hlt => ?_, fun hge => ⟨_, hroY, ?_⟩⟩
   ·have g1 := hgs i hlt
    have g2 := hgx i hlt;have hat2 : (i + m) % N.length < N.length := Nat.mod_lt _ hn1;simp only [c9r30, em, eim, rats, g1, g2, rat, go_sem, Nat.reduceAdd, true_implies];refine ⟨qb (by omega) (by omega), by omega, qb (by omega) (by omega), by omega, ?_⟩
    simp only [c9r32, c9l33m, go_sem, ↓reduceIte, reduceCtorEq, Nat.reduceLeDiff, true_implies];exact ⟨qb (by omega) (by omega), hI2 (N.length - (i + 1)) _ (by omega) ⟨i + 1, rfl, by omega, rfl⟩⟩
   ·have hQ1 : lst (c * Q.1 + d * Q.2) Q.2 = paysQ s N (p.map fun z => c * z + (d : Int)) := hyq.symm
    obtain ⟨⟨q1, q2, q3, q4⟩, _⟩ := hsm;have m1 : c * Q.1 <= 3 * 32000000 := Int.mul_le_mul hc3 (by omega) q3 (by omega)
    have m2 : (d : Int) * Q.2 <= 256 * 32000 := Int.mul_le_mul (by omega) q2 (by omega) (by omega)
    have m3 : 0 <= c * Q.1 := Int.mul_nonneg (by omega) q3
    have m4 : 0 <= (d : Int) * Q.2 := Int.mul_nonneg (by omega) (by omega)
    have hk31 := k31 (n := c * Q.1 + d * Q.2) (d := Q.2) (by omega) (by omega) (by omega)
    rw [hQ1] at hk31;have hk37 := k37 (s := s) (N := N) (p := p.map fun z => c * z + (d : Int))
    have hkz := k37 (s := c * s) (N := N.map fun l => l.map (c * ·)) (p := p)
    simp only [c9r34, go_sem, Nat.reduceAdd];refine qa rfl hk37 (.inl rfl) ?_
    cases hfy : !greatB N (p.map fun z => c * z + (d : Int)) && decide (chkM s N (p.map fun z => c * z + (d : Int)) = 0)
    case' true =>
     rw [Bool.and_eq_true, decide_eq_true_eq] at hfy;have oY := qH.1 hfy.2;have hpY := hpayG _ _ _ oY hP;generalize paysQ s N (p.map fun z => c * z + (d : Int)) = Y at *
     simp only [c9r35, go_sem, Nat.reduceAdd, true_implies];refine qa rfl hpY (.inl rfl) ?_
     simp only [rat, ql, c9r36, go_sem, Nat.reduceAdd, true_implies];refine ⟨qb (by omega) (by omega), qb (by omega) (by omega), qb (by omega) (by omega), ?_⟩
     refine qa rfl hk31 (.inl rfl) ?_;simp only [rat, go_sem, Nat.reduceAdd, true_implies]
    case' false =>
     simp only [go_sem, Nat.reduceAdd, true_implies]
    all_goals
     refine ⟨_, hroZ, ?_⟩;simp only [c9r38, go_sem, Nat.reduceAdd];refine qa rfl hkz (.inl rfl) ?_
     cases hfz : !greatB (N.map fun l => l.map (c * ·)) p && decide (chkM (c * s) (N.map fun l => l.map (c * ·)) p = 0) with
     | false =>
      simp only [c9r39, go_sem, Nat.reduceAdd, true_implies];refine wk ?_;simp only [go_sem, true_implies]
     | true =>
      rw [Bool.and_eq_true, decide_eq_true_eq] at hfz;have oZ : OkM (c * s) (zN c N) p := qH.1 hfz.2;have hZS : 0 < (rootsN (c * s) (zN c N)).sum := by rw [qi2 h.s oZ.s]; exact Int.mul_pos (qhf (by omega)) hS
      have hZP := qeT oZ hZS;have hpZ := hpayG _ _ _ oZ hZP;rw [qoV h.s (by omega) oZ.s, hQ] at hpZ
      have hsZ := hshG _ _ _ oZ hZP
      have hsq : sharesQ (c * s) (zN c N) = sharesQ s N := by
       unfold sharesQ sharesT;rw [qeU];exact List.map_congr_left fun j hj => qnS h.s (by omega) oZ.s (List.mem_range.1 hj)
      rw [hsq] at hsZ
      have hk21 : E.Fn Tryz.prog 21 [rats (sharesQ s N), rats (sharesQ s N)] [.bool true] := by
       have := k21 (xs := sharesQ s N) (ys := sharesQ s N)
       rwa [decide_eq_true rfl] at this
      unfold zN at hpZ hsZ;simp only [c9r40, go_sem, Nat.reduceAdd, true_implies];refine qa rfl hpZ (.inl rfl) ?_
      simp only [rat, ql, c9r41, go_sem, Nat.reduceAdd, true_implies];refine qa rfl hsZ (.inr (.inl rfl)) ?_
      simp only [c9r42, go_sem, Nat.reduceAdd, true_implies];refine qa (by simp only [rats, go_sem]) hk21 (.inl rfl) ?_
      simp only [go_sem];refine wk ?_;simp only [go_sem, true_implies]
theorem law9i {s : Int} {N : List (List Int)} {p : List Int} {b t d : Int} (hb : 0 <= b /\ b < 256) (ht : 0 <= t /\ t < 256) (hd : 0 <= d /\ d < 256) : E.Fn Tryz.prog 9 [mc s N p, .int .u8 b, .int .u8 t, .int .u8 d] [.bool true] := by
 have h := law9 (s := s) (N := N) (p := p) (b := b.toNat) (t := t.toNat) (d := d.toNat) (by omega) (by omega) (by omega)
 rw [show ((b.toNat : Nat) : Int) = b by omega, show ((t.toNat : Nat) : Int) = t by omega, show ((d.toNat : Nat) : Int) = d by omega] at h
 exact h
end Go.Proofs.YtikfhfgdmlijeaaGreat.Sk
