/- The plain law of files: parts between bytes; numbers in digits. -/
import Derived.Test.YtdlfkbpddfeenaaGreatDoorJ7
import Derived.Lib.SplitLaws
import Derived.Lib.AtoiAll
import Derived.Lib.ItoaNum
import Derived.WalkMore
import Derived.Laws.EntriesVeiled

set_option linter.all false

namespace Go.Proofs.YtdlfkbpddfeenaaGreatDoor.Sk
open Go.Lib
def prt (c : UInt8) : List UInt8 -> List (List UInt8)
 | [] => [[]]
 | x :: l => if x = c then [] :: prt c l else match prt c l with
  | [] => [[x]]
  | p :: ps => (x :: p) :: ps
theorem prt_ne (c : UInt8) (l : List UInt8) : prt c l ≠ [] := by
 cases l with
 | nil => simp [prt]
 | cons x l => unfold prt; split; simp; split <;> simp
def prtS (c x : UInt8) (P : List (List UInt8)) : List (List UInt8) := if x = c then P ++ [[]] else P.dropLast ++ [P.getLastD [] ++ [x]]
theorem prt_snoc (c x : UInt8) : ∀ l, prt c (l ++ [x]) = prtS c x (prt c l)
 | [] => by simp [prt, prtS]
 | y :: l => by
  have ih := prt_snoc c x l;have hne := prt_ne c l;simp only [List.cons_append, prt, ih]
  by_cases hy : y = c
  ·simp only [if_pos hy]
   unfold prtS
   by_cases hx : x = c
   ·simp [hx]
   ·simp only [if_neg hx]
    cases hp : prt c l with
    | nil => exact absurd hp hne
    | cons p ps => simp [List.dropLast, List.getLastD]
  ·simp only [if_neg hy]
   unfold prtS
   by_cases hx : x = c
   ·simp only [if_pos hx]
    cases hp : prt c l with
    | nil => exact absurd hp hne
    | cons p ps => simp
   ·simp only [if_neg hx]
    cases hp : prt c l with
    | nil => exact absurd hp hne
    | cons p ps =>
     cases ps with
     | nil => simp
     | cons q qs => simp [List.dropLast, List.getLastD]
theorem index_cons (b c : UInt8) (l : List UInt8) : index (b :: l) [c] = if b = c then 0 else if index l [c] = -1 then -1 else index l [c] + 1 := by
 rw [index]
 by_cases h : b = c
 ·subst h; simp [List.isPrefixOf]
 ·have : ([c] : List UInt8).isPrefixOf (b :: l) = false := by simp [List.isPrefixOf, Ne.symm h]
  simp [this, h]
theorem index_no {c : UInt8} : ∀ {l : List UInt8}, l.count c = 0 -> index l [c] = -1
 | [], _ => rfl
 | b :: l, h => by
  have hb : b ≠ c := fun e => by subst e; simp at h
  have hl : l.count c = 0 := by rw [List.count_cons_of_ne (by simpa using hb)] at h; exact h
  rw [index_cons, if_neg hb, if_pos (index_no hl)]
theorem split_prt (c : UInt8) : ∀ (l : List UInt8) (k : Nat), l.count c <= k -> splitK [c] 0 k l = prt c l
 | [], 0, _ => rfl
 | [], k + 1, _ => rfl
 | b :: l, k, hk => by
  by_cases hb : b = c
  ·subst hb
   rw [List.count_cons_self] at hk;obtain ⟨k, rfl⟩ : ∃ k', k = k' + 1 := ⟨k - 1, by omega⟩
   have hi : index (b :: l) [b] = 0 := by rw [index_cons, if_pos rfl]
   rw [splitK, hi];simp only [prt, if_pos];rw [<- split_prt b l k (by omega)]
   rfl
  ·rw [List.count_cons_of_ne (by simpa using hb)] at hk
   have ih := split_prt c l k hk;have hi := index_cons b c l;rw [if_neg hb] at hi
   by_cases hm : index l [c] = -1
   ·rw [if_pos hm] at hi
    have e1 : splitK [c] 0 k l = [l] := by
     cases k with
     | zero => rfl
     | succ k => rw [splitK, hm]; rfl
    have e2 : splitK [c] 0 k (b :: l) = [b :: l] := by
     cases k with
     | zero => rfl
     | succ k => rw [splitK, hi]; rfl
    rw [e2, prt, if_neg hb, <- ih, e1]
   ·rw [if_neg hm] at hi
    have hge := index_ge l [c];obtain ⟨j, hj⟩ : ∃ j : Nat, index l [c] = j := ⟨(index l [c]).toNat, by omega⟩
    cases k with
    | zero => exact absurd (index_no (Nat.le_zero.1 hk)) hm
    | succ k =>
     rw [hj] at hi
     have e1 : splitK [c] 0 (k + 1) l = l.take (j + 0) :: splitK [c] 0 k (l.drop (j + 1)) := by
      rw [splitK, hj, if_neg (by simp)]; rfl
     have e2 : splitK [c] 0 (k + 1) (b :: l) = (b :: l).take (j + 1 + 0) :: splitK [c] 0 k ((b :: l).drop (j + 1 + 1)) := by
      rw [splitK, hi, if_neg (by simp; omega)]; rfl
     rw [e2, prt, if_neg hb, <- ih, e1];rfl
theorem prt_count {c : UInt8} {l : List UInt8} : splitK [c] 0 (count l [c]) l = prt c l := split_prt c l _ (by rw [count_one]; exact Nat.le_refl _)
theorem prt_len {c : UInt8} : ∀ {l p : List UInt8}, p ∈ prt c l -> p.length <= l.length
 | [], p, h => by simp [prt] at h; simp [h]
 | x :: l, p, h => by
  unfold prt at h
  split at h
  ·rcases List.mem_cons.1 h with rfl | h
   ·simp
   ·have := prt_len h; simp only [List.length_cons]; omega
  ·split at h
   ·rename_i hp; exact absurd hp (prt_ne c l)
   ·rename_i q qs hp
    rcases List.mem_cons.1 h with rfl | h
    ·have := prt_len (l := l) (p := q) (by rw [hp]; exact List.mem_cons_self ..); simp only [List.length_cons]; omega
    ·have := prt_len (l := l) (p := p) (by rw [hp]; exact List.mem_cons_of_mem _ h); simp only [List.length_cons]; omega
theorem prt_num (c : UInt8) : ∀ l : List UInt8, (prt c l).length <= l.length + 1
 | [] => by simp [prt]
 | x :: l => by
  have := prt_num c l;unfold prt
  split
  ·simp only [List.length_cons]; omega
  ·split
   ·simp
   ·rename_i p ps hp; rw [hp] at this; simp only [List.length_cons] at *; omega
theorem prt_none {c : UInt8} : ∀ {l : List UInt8}, c ∉ l -> prt c l = [l]
 | [], _ => rfl
 | x :: l, h => by
  rw [prt, if_neg (fun e => h (by rw [e]; exact List.mem_cons_self ..)), prt_none fun hl => h (List.mem_cons_of_mem _ hl)]
theorem prt_app {c : UInt8} : ∀ {a b : List UInt8}, c ∉ a -> prt c (a ++ c :: b) = a :: prt c b
 | [], b, _ => by simp [prt]
 | x :: a, b, h => by
  rw [List.cons_append, prt, if_neg (fun e => h (by rw [e]; exact List.mem_cons_self ..)), prt_app fun hl => h (List.mem_cons_of_mem _ hl)]
theorem prt_two {c : UInt8} : ∀ {l a b : List UInt8}, prt c l = [a, b] -> l = a ++ c :: b
 | [], a, b, h => by simp [prt] at h
 | x :: l, a, b, h => by
  unfold prt at h
  split at h
  ·rename_i hx
   simp only [List.cons.injEq] at h;obtain ⟨rfl, h⟩ := h
   have : l = b := by
    clear hx
    induction l generalizing b with
    | nil => simp only [prt, List.cons.injEq, and_true] at h; exact h
    | cons y l ih =>
     unfold prt at h
     split at h
     ·have := prt_ne c l; simp only [List.cons.injEq] at h; exact absurd h.2 this
     ·split at h
      ·rename_i hp; exact absurd hp (prt_ne c l)
      ·rename_i q qs hp
       simp only [List.cons.injEq] at h;obtain ⟨rfl, rfl⟩ := h;rw [ih q hp]
   subst this; simp [hx]
  ·split at h
   ·rename_i hp; exact absurd hp (prt_ne c l)
   ·rename_i q qs hp
    simp only [List.cons.injEq] at h;obtain ⟨rfl, rfl⟩ := h;rw [prt_two hp]; rfl
def digs : Nat -> List UInt8 -> Option Nat
 | a, [] => some a
 | a, x :: l => if x.toNat < 48 \/ 57 < x.toNat then none else digs (10 * a + (x.toNat - 48)) l
def numR (l : List UInt8) : Int × Bool :=
 if l.length = 0 \/ 9 < l.length \/ l.head? = some 48 /\ 1 < l.length then (0, false) else match digs 0 l with
 | some n => ((n : Int), true)
 | none => (0, false)
theorem digs_snoc : ∀ (l : List UInt8) (a : Nat) (x : UInt8), digs a (l ++ [x]) = match digs a l with
  | some n => if x.toNat < 48 \/ 57 < x.toNat then none else some (10 * n + (x.toNat - 48))
  | none => none
 | [], a, x => by simp [digs]
 | y :: l, a, x => by
  simp only [List.cons_append, digs]
  split
  ·rfl
  ·exact digs_snoc l _ x
theorem digs_app : ∀ (p q : List UInt8) (a : Nat), digs a (p ++ q) = (digs a p).bind fun n => digs n q
 | [], q, a => rfl
 | y :: p, q, a => by
  simp only [List.cons_append, digs]
  split
  ·rfl
  ·exact digs_app p q _
theorem digs_bad {l : List UInt8} {i n : Nat} {x : UInt8} (h : digs 0 (l.take i) = some n) (hx : l[i]? = some x) (hb : x.toNat < 48 \/ 57 < x.toNat) : digs 0 l = none := by
 have e : l = l.take i ++ x :: l.drop (i + 1) := by
  have h1 := List.take_append_drop i l;rw [List.drop_eq_getElem_cons (List.getElem?_eq_some_iff.1 hx).1, (List.getElem?_eq_some_iff.1 hx).2] at h1;exact h1.symm
 rw [e, digs_app, h];simp only [Option.bind_some, digs];rw [if_pos hb]
theorem digs_bad2 {x : UInt8} (hb : x.toNat < 48 \/ 57 < x.toNat) : ∀ {l : List UInt8} {a : Nat}, x ∈ l -> digs a l = none
 | y :: l, a, h => by
  simp only [digs]
  rcases List.mem_cons.1 h with rfl | h
  ·rw [if_pos hb]
  ·split
   ·rfl
   ·exact digs_bad2 hb h
theorem dec_big {u : Nat} (h : ¬ u < 10) : decDigits u = decDigits (u / 10) ++ [UInt8.ofNat (48 + u % 10)] := by
 rw [decDigits, dif_neg h]
theorem dec_small {u : Nat} (h : u < 10) : decDigits u = [UInt8.ofNat (48 + u)] := by rw [decDigits, dif_pos h]
theorem u8_toNat {n : Nat} (h : n < 256) : (UInt8.ofNat n).toNat = n := by simp; omega
theorem digs_dec (u : Nat) : digs 0 (decDigits u) = some u := by
 induction u using Nat.strongRecOn with
 | _ u ih =>
  by_cases h : u < 10
  ·rw [dec_small h]
   simp only [digs, u8_toNat (show 48 + u < 256 by omega)]
   rw [if_neg (by omega)]; congr 1; omega
  ·rw [dec_big h, digs_snoc, ih _ (by omega)]
   simp only [u8_toNat (show 48 + u % 10 < 256 by omega)]
   rw [if_neg (by omega)]; congr 1; omega
theorem dec_head {u : Nat} (h : 1 <= u) : ∃ x l, decDigits u = x :: l /\ 49 <= x.toNat := by
 induction u using Nat.strongRecOn with
 | _ u ih =>
  by_cases hs : u < 10
  ·rw [dec_small hs]
   exact ⟨_, _, rfl, by rw [u8_toNat (by omega)]; omega⟩
  ·obtain ⟨x, l, e, hx⟩ := ih (u / 10) (by omega) (by omega)
   rw [dec_big hs, e];exact ⟨_, _, rfl, hx⟩
theorem dec_lead {u : Nat} : ¬ ((decDigits u).head? = some 48 /\ 1 < (decDigits u).length) := by
 rintro ⟨h1, h2⟩
 by_cases h : u < 10
 ·rw [dec_small h] at h2; simp at h2
 ·obtain ⟨x, l, e, hx⟩ := dec_head (u := u) (by omega)
  rw [e] at h1;simp only [List.head?_cons, Option.some.injEq] at h1;subst h1;exact absurd hx (by decide)
theorem dec_of_digs : ∀ (l : List UInt8) (n : Nat), l ≠ [] -> ¬ (l.head? = some 48 /\ 1 < l.length) -> digs 0 l = some n -> l = decDigits n := by
 intro l
 induction hl : l.length generalizing l with
 | zero => intro n h; exact absurd (List.length_eq_zero_iff.1 hl) h
 | succ k ih =>
  intro n hne hlead hd;obtain ⟨l', x, rfl⟩ : ∃ l' x, l = l' ++ [x] := ⟨l.dropLast, l.getLast hne, (List.dropLast_concat_getLast hne).symm⟩;rw [digs_snoc] at hd
  by_cases h0 : l' = []
  ·subst h0
   simp only [digs] at hd
   split at hd
   ·cases hd
   ·simp only [Option.some.injEq] at hd
    have hx := x.toNat_lt;rw [dec_small (by omega), <- hd]
    simp only [List.nil_append, List.cons.injEq, and_true]
    apply UInt8.toNat_inj.1
    rw [u8_toNat (by omega)]; omega
  ·cases hd' : digs 0 l' with
   | none => rw [hd'] at hd; cases hd
   | some n' =>
    rw [hd'] at hd;simp only at hd
    split at hd
    ·cases hd
    ·simp only [Option.some.injEq] at hd
     have hln : l'.length = k := by simp at hl; exact hl
     have hh : l'.head? = (l' ++ [x]).head? := by
      cases l' with
      | nil => exact absurd rfl h0
      | cons y l' => rfl
     have hle : 1 < (l' ++ [x]).length := by
      have := List.length_pos_iff.2 h0;simp; omega
     have h48 : l'.head? ≠ some 48 := fun e => hlead ⟨by rw [<- hh]; exact e, by have := List.length_pos_iff.2 h0; omega⟩
     have e1 := ih l' hln n' h0 (fun h => h48 h.1) hd'
     have hn' : 1 <= n' := by
      rcases Nat.eq_zero_or_pos n' with e | h
      ·subst e
       rw [e1, dec_small (by decide)] at h48
       exact absurd rfl h48
      ·exact h
     have hx := x.toNat_lt;have hdiv : n / 10 = n' := by omega
     rw [dec_big (u := n) (by omega), hdiv, <- e1]
     congr 1
     simp only [List.cons.injEq, and_true]
     apply UInt8.toNat_inj.1
     rw [u8_toNat (by omega)]; omega
theorem digs_le : ∀ (l : List UInt8) (a n : Nat), digs a l = some n -> a <= n
 | [], a, n, h => by simp only [digs, Option.some.injEq] at h; omega
 | x :: l, a, n, h => by
  simp only [digs] at h
  split at h
  ·cases h
  ·have := digs_le l _ n h; omega
theorem parse_digs : ∀ (l : List UInt8) (a n : Nat), digs a l = some n -> n < 1000000000000 -> parseUint10 a l = .ok n
 | [], a, n, h, _ => by simp only [digs, Option.some.injEq] at h; subst h; rfl
 | x :: l, a, n, h, hn => by
  simp only [digs] at h
  split at h
  ·cases h
  ·rename_i hx
   have hle := digs_le l _ n h;have hx2 := x.toNat_lt;simp only [parseUint10];rw [if_pos (by omega), if_neg (by omega), if_neg (by omega), show a * 10 + (x.toNat - 48) = 10 * a + (x.toNat - 48) by omega]
   exact parse_digs l _ n h hn
theorem digs_first {x : UInt8} {l : List UInt8} {a n : Nat} (h : digs a (x :: l) = some n) : 48 <= x.toNat /\ x.toNat <= 57 := by
 simp only [digs] at h
 split at h
 ·cases h
 ·omega
theorem atoi_digs {l : List UInt8} {n : Nat} (hne : l ≠ []) (h : digs 0 l = some n) (hn : n < 1000000000000) : atoiAll l = .ok (n : Int) := by
 cases l with
 | nil => exact absurd rfl hne
 | cons x l =>
  obtain ⟨h1, h2⟩ := digs_first h;have hp := parse_digs _ _ _ h hn;simp only [atoiAll];rw [if_neg (show ¬ (x.toNat = 43 \/ x.toNat = 45) by omega), parseMag, if_neg hne, hp]
  simp only;rw [if_neg (by omega), if_neg (by omega), if_neg (by omega)]
theorem dec_lt {n : Nat} (h : (decDigits n).length <= 9) : n < 1000000000 := by
 have := lt_pow_nDigits n;rw [decDigits_length] at h;exact Nat.lt_of_lt_of_le this (Nat.pow_le_pow_right (by decide) h)
def nuL (l : List UInt8) : Int := match atoiAll l with | .ok v => v | .range => atoiSat l | _ => 0
def nuF (l : List UInt8) : Bool := match atoiAll l with | .ok v => decide (l.length <= 9) && decide (0 <= v) && (itoa v == l) | _ => false
theorem nuF_eq (l : List UInt8) : nuF l = (numR l).2 /\ ((numR l).2 = true -> nuL l = (numR l).1) := by
 by_cases hr : (numR l).2 = true
 ·have hr0 := hr
  unfold numR at hr
  split at hr
  ·cases hr
  ·rename_i hc
   have h1 : l.length ≠ 0 := fun e => hc (.inl e)
   have h2 : l.length <= 9 := by omega
   have h3 : ¬ (l.head? = some 48 /\ 1 < l.length) := fun e => hc (.inr (.inr e))
   have hne : l ≠ [] := fun e => h1 (by rw [e]; rfl)
   cases hd : digs 0 l with
   | none => rw [hd] at hr; cases hr
   | some n =>
    have hl := dec_of_digs l n hne h3 hd;have hn : n < 1000000000 := dec_lt (by rw [<- hl]; exact h2)
    have ha := atoi_digs hne hd (by omega)
    have e : numR l = ((n : Int), true) := by unfold numR; rw [if_neg hc, hd]
    have e2 : itoa (n : Int) = l := by rw [itoa, if_neg (by omega), Int.toNat_natCast, <- hl]
    refine ⟨?_, fun _ => ?_⟩
    ·rw [e]; unfold nuF; rw [ha]; simp [h2, e2]
    ·rw [e]; unfold nuL; rw [ha]
 ·refine ⟨?_, fun h => absurd h hr⟩
  cases hf : nuF l with
  | false => simp at hr; exact hr.symm
  | true =>
   exfalso
   apply hr
   unfold nuF at hf
   split at hf
   ·rename_i v hv
    simp only [Bool.and_eq_true, decide_eq_true_eq, beq_iff_eq] at hf;obtain ⟨⟨h1, h2⟩, h3⟩ := hf;have hl : l = decDigits v.toNat := by rw [<- h3, itoa, if_neg (by omega)]
    have hd := digs_dec v.toNat;have hlead := dec_lead (u := v.toNat);have hlen := decDigits_length v.toNat;have hpos := nDigits_pos v.toNat;rw [<- hl] at hd hlead hlen;unfold numR;rw [if_neg (by rintro (h | h | h); omega; omega; exact hlead h), hd]
   ·cases hf
end Go.Proofs.YtdlfkbpddfeenaaGreatDoor.Sk
namespace Go.Proofs.YtdlfkbpddfeenaaGreatDoor.Sk
open Go Go.E Go.E.Sm
set_option maxRecDepth 10000
theorem str1 {z : Int} : strOf [z] = bL [UInt8.ofNat z.toNat] := rfl
theorem dec_len {u : Nat} (h : u < 1000000000) : (Lib.decDigits u).length <= 9 := by rw [Lib.decDigits_length]; exact nD_le 8 _ h
theorem inR_u8 {z : Int} (h0 : 0 <= z) (h1 : z <= 255) : inR .u8 z := by
 unfold inR;rw [IntKind.wrap_u8]; omega
theorem k101 {n : Nat} (hn : n < 1000000000) : E.Fn Tryz.prog 101 [.int .i64 n] [.str (bL (Lib.decDigits n))] := by
 refine fn_of_row okf101 ?_;have hdl := dec_len hn;generalize hR : Lib.decDigits n = R at hdl;have be : (ByteArray.mk #[]) = bL [] := rfl;simp only [FRow.start, f101, c101r0, c101r1, be, go_sem, Nat.reduceSub, true_implies]
 refine loop_rule (fun k τ => ∃ (u : Nat) (o : List UInt8), k = u /\ u < 1000000000 /\ R = Lib.decDigits u ++ o /\
  τ = ⟨((aI u)::aN::aN::(.s (.str (bL o)))::aN::aN::aN::aZ16), []⟩) n rfl ?_ ?_
 ·simp only [c101l5m, go_sem]
  exact ⟨n, [], rfl, hn, by simp [hR], rfl⟩
 rintro I k τ ⟨u, o, rfl, hu, ho, rfl⟩ hI;have hol : o.length <= 9 := by rw [ho, List.length_append] at hdl; omega
 simp only [c101l5, c101r2, go_sem, ↓reduceIte, true_implies];refine ⟨fun hlt => ?_, fun hge => ?_⟩
 ·have et : (k : Int).tmod 10 = ((k % 10 : Nat) : Int) := by rw [Int.tmod_eq_emod_of_nonneg (by omega)]; omega
  have ed : (k : Int).tdiv 10 = ((k / 10 : Nat) : Int) := by rw [Int.tdiv_eq_ediv_of_nonneg (by omega)]; omega
  have ez : ((48 : Int) + ((k % 10 : Nat) : Int)).toNat = 48 + k % 10 := by omega
  have q1 : 1 + o.length <= 2 ^ 40 := by omega
  have q2 : o.length + 1 <= 2 ^ 40 := by omega
  have hm : k % 10 < 10 := Nat.mod_lt _ (by decide)
  simp only [c101r3, c101r4, et, ed, ez, str1, bL_app, bL_size, q1, c101l5m, go_sem, ↓reduceIte, Nat.reduceMul, true_implies];generalize hr : k % 10 = r at *;refine ⟨by decide, inR_small (by omega) (by omega), inR_u8 (by omega) (by omega), by decide, by decide, rfl, fun e he => ?_, by decide, inR_small (by omega) (by omega), hI (k / 10) _ (by omega) ⟨k / 10, _, rfl, by omega, ?_, rfl⟩⟩
  ·simp only [List.mem_cons, List.not_mem_nil, or_false] at he
   subst he; rfl
  rw [ho, dec_big (u := k) (by omega), hr, List.append_assoc]
  rfl
 ·have ez : ((48 : Int) + (k : Int)).toNat = 48 + k := by omega
  have q2 : o.length + 1 <= 2 ^ 40 := by omega
  have q1 : 1 + o.length <= 2 ^ 40 := by omega
  have e : R = UInt8.ofNat (48 + k) :: o := by rw [ho, dec_small (by omega)]; rfl
  subst e;simp only [c101r6, ez, str1, bL_app, bL_size, q1, go_sem, ↓reduceIte, Nat.reduceMul, true_implies];refine ⟨inR_small (by omega) (by omega), inR_u8 (by omega) (by omega), by decide, by decide, rfl, fun e he => ?_⟩
  simp only [List.mem_cons, List.not_mem_nil, or_false] at he;subst he; rfl
theorem k107 {j : Nat} (h : j <= 4) : E.Fn Tryz.prog 107 [.int .i64 ((j : Int) + 1)] [.str (bL (wdL.getD j []))] := by
 refine fn_of_row okf107 ?_;have hw := wds_get h;generalize wdL.getD j [] = d at hw;have hw2 := congrArg (Option.map SV.str) hw;rw [<- List.getElem?_map] at hw2;unfold wds bL at hw2;simp only [List.map_cons, List.map_nil, Option.map_some] at hw2;simp only [FRow.start, f107, c107r0, c107r1, go_sem, Nat.reduceSub, Nat.reduceMul, true_implies]
 refine ⟨by decide, by decide, rfl, fun e h => by
  simp only [List.mem_cons, List.not_mem_nil, or_false] at h
  rcases h with rfl | rfl | rfl | rfl | rfl <;> rfl, ?_⟩
 simp only [c107r2, go_sem];refine ⟨inR_small (by omega) (by omega), by omega, ?_⟩
 simp only [Int.add_sub_cancel, Int.toNat_natCast, hw2, bL, go_sem, true_implies]
theorem lin_eq {x : Ent} (h : OkE x) : ∃ j : Nat, x.k = (j : Int) + 1 /\ j <= 4 /\ linL x = dcL x.m ++ [32] ++ dcL x.n ++ [32] ++ wdL.getD j [] ++ [32] ++ dcL x.a ++ [10] := by
 obtain ⟨j, hj⟩ : ∃ j : Nat, x.k = (j : Int) + 1 := ⟨(x.k - 1).toNat, by have := h.k1; omega⟩
 refine ⟨j, hj, by have := h.k5; omega, ?_⟩
 unfold linL; rw [hj]; simp
theorem k101i {n : Int} (h0 : 0 <= n) (hn : n < 1000000000) : E.Fn Tryz.prog 101 [.int .i64 n] [.str (bL (dcL n))] := by
 have := k101 (n := n.toNat) (by omega)
 rw [show ((n.toNat : Nat) : Int) = n by omega] at this
 exact this
theorem k100 {x : Ent} (hox : OkE x) : E.Fn Tryz.prog 100 [ent x] [.str (bL (linL x))] := by
 refine fn_of_row okf100 ?_;obtain ⟨j, hj, hj4, hlin⟩ := lin_eq hox;have hwl := wdL_len hj4;have l1 := dcL_len (n := x.m) (by have := hox.m4; omega)
 have l2 := dcL_len (n := x.n) (by have := hox.n30; omega)
 have l3 := dcL_len (n := x.a) (by have := hox.a100; omega)
 generalize hR : linL x = R;rw [hR] at hlin;simp only [FRow.start, f100, c100r0, c100r1, ent, SV.cells, go_sem, Nat.reduceAdd, Nat.reduceSub, Nat.reduceLeDiff, true_implies];refine callK_of (by simp only [go_sem]) (k101i (n := x.m) hox.m0 (by have := hox.m4; omega)) (.inl rfl) ?_
 have e1 := k101i (n := x.n) (by have := hox.n1; omega) (by have := hox.n30; omega)
 have e2 := k101i (n := x.a) hox.a0 (by have := hox.a100; omega)
 have e3 := k107 hj4;rw [<- hj] at e3;generalize dcL x.m = d1 at *; generalize dcL x.n = d2 at *; generalize dcL x.a = d3 at *; generalize wdL.getD j [] = d4 at *;have q1 : d1.length + 1 <= 2 ^ 40 := by omega
 have q2 : d1.length + 1 + d2.length <= 2 ^ 40 := by omega
 have q3 : d1.length + 1 + d2.length + 1 <= 2 ^ 40 := by omega
 have q4 : d1.length + 1 + d2.length + 1 + d4.length <= 2 ^ 40 := by omega
 have q5 : d1.length + 1 + d2.length + 1 + d4.length + 1 <= 2 ^ 40 := by omega
 have q6 : d1.length + 1 + d2.length + 1 + d4.length + 1 + d3.length <= 2 ^ 40 := by omega
 have q7 : d1.length + 1 + d2.length + 1 + d4.length + 1 + d3.length + 1 <= 2 ^ 40 := by omega
 simp only [b32, b10, bL_app, bL_size, q1, go_sem, ↓reduceIte, Nat.reduceAdd, Nat.reduceLeDiff];refine callK_of (by simp only [go_sem]) e1 (.inl rfl) ?_
 simp only [bL_app, bL_size, List.length_append, q2, q3, go_sem, ↓reduceIte, Nat.reduceAdd, Nat.reduceLeDiff];refine callK_of (by simp only [go_sem]) e3 (.inl rfl) ?_
 simp only [bL_app, bL_size, List.length_append, q4, q5, go_sem, ↓reduceIte, Nat.reduceAdd, Nat.reduceLeDiff];refine callK_of (by simp only [go_sem]) e2 (.inl rfl) ?_
 simp only [bL_app, bL_size, List.length_append, q6, q7, go_sem, ↓reduceIte, true_implies];rw [hlin]
theorem k78 {L : List Ent} (ho : OkS L) : E.Fn Tryz.prog 78 [ssn L] [.str (bL (filL L))] := by
 refine fn_of_row okf78 ?_;have hlA := ho.len;have be : (ByteArray.mk #[]) = bL [] := rfl;have l1 := dcL_len (n := (L.length : Int)) (by omega)
 have e1 := k101i (n := (L.length : Int)) (by omega) (by omega)
 generalize hR : filL L = R
 have hlin : R = L.flatMap linL ++ [101, 110, 100, 32] ++ dcL L.length ++ [10] := by
  rw [<- hR]; unfold filL endL; simp [List.append_assoc]
 simp only [FRow.start, f78, c78r0, c78r1, c78r2, ssn, SV.cells, be, go_sem, Nat.reduceSub, true_implies]
 refine loop_rule (fun k τ => ∃ i : Nat, k = L.length - i /\ i <= L.length /\
  τ = ⟨(aN::(.s (.ptr [.slice (L.map ent)]))::aN::(.s (.str (bL ((L.take i).flatMap linL))))::(aI i)::aN::aN::aN::aN::aN::aN::aN::aZ16), []⟩) L.length rfl ?_ ?_
 ·simp only [c78l6m, ents, go_sem]
  exact ⟨0, rfl, Nat.zero_le _, rfl⟩
 rintro I k τ ⟨i, rfl, hi, rfl⟩ hI;have hfl := flat_len (l := L.take i) fun e he => ho.ent e (List.mem_of_mem_take he)
 rw [List.length_take] at hfl;simp only [c78l6, c78r3, go_sem, ↓reduceIte, Nat.reduceLeDiff];intro hmx;refine ⟨fun hlt => ?_, fun hge => ?_⟩
 ·have hx : L[i]? = some L[i] := List.getElem?_eq_getElem hlt
  have hox := ho.ent L[i] (List.getElem_mem hlt);generalize L[i] = x at hx hox;have ht := take_snoc hx;have hll := linL_len hox;simp only [c78r4, hx, ent_cells, go_sem, Nat.reduceAdd, Nat.reduceLeDiff];refine callK_of (by simp only [ent, go_sem]) (k100 hox) (.inl rfl) ?_
  have q1 : ((L.take i).flatMap linL).length + (linL x).length <= 2 ^ 40 := by omega
  simp only [bL_app, bL_size, q1, c78r5, c78l6m, go_sem, ↓reduceIte, true_implies];exact ⟨inR_small (by omega) (by omega), hI (L.length - (i + 1)) _ (by omega) ⟨i + 1, rfl, by omega, by rw [ht, List.flatMap_append, List.flatMap_singleton]; rfl⟩⟩
 ·have hi2 : i = L.length := by omega
  subst hi2;rw [List.take_length] at *;generalize L.flatMap linL = d0 at *;have bend : (ByteArray.mk #[101, 110, 100, 32]) = bL [101, 110, 100, 32] := rfl;have q1 : d0.length + 4 <= 2 ^ 40 := by omega
  simp only [c78r7, bend, bL_app, bL_size, q1, go_sem, ↓reduceIte, Nat.reduceAdd, Nat.reduceLeDiff];refine callK_of (by simp only [go_sem]) e1 (.inl rfl) ?_
  generalize dcL L.length = d1 at *;have q2 : d0.length + 4 + d1.length <= 2 ^ 40 := by omega
  have q3 : d0.length + 4 + d1.length + 1 <= 2 ^ 40 := by omega
  have l4 : ([101, 110, 100, 32] : List UInt8).length = 4 := rfl;simp only [b10, bL_app, bL_size, List.length_append, l4, q2, q3, go_sem, ↓reduceIte];intro _;rw [hlin]
theorem k41 {L : List Ent} : E.Fn Tryz.prog 41 [ssn L] [.str (bL (filR L)), .int .i64 (ckS L)] := by
 refine fn_of_row okf41 ?_;generalize hR : filR L = R;simp only [FRow.start, f41, c41r0, c41r1, ssn, SV.cells, go_sem, Nat.reduceSub, true_implies];refine callK_of (by simp only [ssn, go_sem]) (k26 (L := L)) (.inl rfl) ?_
 by_cases hA : ckS L = 0
 case neg =>
  have e : R = [] := by rw [<- hR]; unfold filR; rw [if_neg hA]
  subst e;simp only [hA, c41r2, go_sem, true_implies];refine callK_of (by simp only [ssn, go_sem]) (k26 (L := L)) (.inl rfl) ?_
  simp only [bL, go_sem, true_implies]
 have e : R = filL L := by rw [<- hR]; unfold filR; rw [if_pos hA]
 subst e;simp only [hA, c41r3, go_sem, true_implies];refine callK_of (by simp only [ssn, go_sem]) (k78 (ckS_zero.1 hA)) (.inl rfl) ?_
 simp only [go_sem, true_implies]
def strs (P : List (List UInt8)) : List SV := P.map fun p => .str (bL p)
theorem k84 {l : List UInt8} {c : UInt8} (hl : l.length <= 1000) : E.Fn Tryz.prog 84 [.str (bL l), .int .u8 c.toNat] [.slice (strs (prt c l))] := by
 refine fn_of_row okf84 ?_;generalize hR : prt c l = R;have be : (ByteArray.mk #[]) = bL [] := rfl;simp only [FRow.start, f84, c84r0, c84r1, c84r2, be, go_sem, Nat.reduceAdd, Nat.reduceSub, Nat.reduceLT, Nat.reduceMul, true_implies]
 refine ⟨by decide, by decide, rfl, fun e h => by
  simp only [List.mem_cons, List.not_mem_nil, or_false] at h;subst h; rfl, ?_⟩
 refine loop_rule (fun k τ => ∃ i : Nat, k = l.length - i /\ i <= l.length /\
  τ = ⟨((.s (.str (bL l)))::(.s (.int .u8 c.toNat))::aN::aN::aN::(.sl 0 0 (prt c (l.take i)).length 1 false)::(aI i)::aN::aZ32), [.row (strs (prt c (l.take i)))]⟩) l.length rfl ?_ ?_
 ·simp only [c84l8m, go_sem]
  exact ⟨0, rfl, Nat.zero_le _, rfl⟩
 rintro I k τ ⟨i, rfl, hi, rfl⟩ hI;simp only [c84l8, c84r3, bL_size, go_sem, ↓reduceIte, true_implies];refine ⟨fun hlt => ?_, fun hge => ?_⟩
 ·have hx : l[i]? = some l[i] := List.getElem?_eq_getElem hlt
  generalize l[i] = x at hx;have ht := take_snoc hx;have hbx : (bL l).data[i]? = some x := by simp [bL, hx]
  simp only [c84r4, sidxK, Int.toNat_natCast, hbx, intK, go_sem, true_implies];have hpl := prt_num c (l.take i);rw [List.length_take] at hpl;have hp0 := List.length_pos_iff.2 (prt_ne c (l.take i));refine ⟨fun he => ?_, fun he => ?_⟩
  ·have he : x = c := by apply UInt8.toNat_inj.1; omega
   have hps : prt c (l.take (i + 1)) = prt c (l.take i) ++ [[]] := by rw [ht, prt_snoc, prtS, if_pos he]
   simp only [c84r5, be, go_sem, Nat.reduceAdd, Nat.reduceMul, true_implies]
   have hel : ∀ (e : SV), e ∈ [SV.str (bL [])] -> e.cells.length = 1 := fun e h => by
    simp only [List.mem_cons, List.not_mem_nil, or_false] at h;subst h; rfl
   refine ⟨by decide, by decide, rfl, hel, hel, by simp [strs], by omega, by omega, ?_⟩
   simp only [c84r7, c84l8m, go_sem, true_implies];refine ⟨inR_small (by omega) (by omega), hI (l.length - (i + 1)) _ (by omega) ⟨i + 1, rfl, by omega, ?_⟩⟩
   rw [hps, List.length_append];simp only [strs, List.map_append];rfl
  ·have he : x ≠ c := fun e => he (by rw [e])
   have hps : prt c (l.take (i + 1)) = (prt c (l.take i)).dropLast ++ [(prt c (l.take i)).getLastD [] ++ [x]] := by rw [ht, prt_snoc, prtS, if_neg he]
   have hlast := List.dropLast_concat_getLast (prt_ne c (l.take i));have hql := prt_len (List.getLast_mem (prt_ne c (l.take i)));rw [List.length_take] at hql;generalize (prt c (l.take i)).dropLast = Q at hlast;generalize (prt c (l.take i)).getLast _ = q at hlast hql;rw [<- hlast] at hps hp0 hpl;have hps2 : prt c (l.take (i + 1)) = Q ++ [q ++ [x]] := by rw [hps, List.getLastD_concat, List.dropLast_concat]
   have hsq : strs (Q ++ [q]) = strs Q ++ [.str (bL q)] := by simp [strs]
   have hsl : (strs Q).length = Q.length := by simp [strs]
   rw [<- hlast, hsq, List.length_append] at *;simp only [List.length_cons, List.length_nil, Nat.zero_add] at *;have ez : ((Q.length + 1 : Nat) : Int) - 1 = Q.length := by omega
   simp only [c84r6, ez, go_sem];have hget : (strs Q ++ [SV.str (bL q)])[Q.length]? = some (.str (bL q)) := by rw [<- hsl]; simp
   have hsub : sopV .sub [.s (.str (bL l)), aI i, aI ((i : Int) + 1)] = some (.str (bL [x])) := by
    have e : (bL l).extract (i : Int).toNat ((i : Int) + 1).toNat = bL [x] := by
     apply ByteArray.ext
     simp only [bL, Int.toNat_natCast, show ((i : Int) + 1).toNat = i + 1 by omega, ByteArray.data_extract]
     apply Array.ext'
     simp [List.take_one, hx]
    simp only [sopV, e, bL_size];rw [if_pos (by omega)]
   have q1 : q.length + 1 <= 2 ^ 40 := by omega
   refine ⟨inR_small (by omega) (by omega), inR_small (by omega) (by omega), ?_⟩
   simp only [Int.toNat_natCast, Nat.mul_one, hget, hsub, bL_app, bL_size, q1, go_sem, ↓reduceIte];refine ⟨by omega, inR_small (by omega) (by omega), by omega, by simp [hsl], fun _ => ?_⟩
   have hspl : splice (strs Q ++ [SV.str (bL q)]) Q.length [SV.str (bL (q ++ [x]))] = strs (Q ++ [q ++ [x]]) := by
    unfold splice;rw [<- hsl]; simp [strs]
   simp only [c84r7, c84l8m, hspl, go_sem, true_implies];refine ⟨inR_small (by omega) (by omega), hI (l.length - (i + 1)) _ (by omega) ⟨i + 1, rfl, by omega, ?_⟩⟩
   rw [hps2, List.length_append];rfl
 ·have hi2 : i = l.length := by omega
  subst hi2;rw [List.take_length, hR]
  have hsl : sliceOf 0 R.length 1 (strs R) = some (.slice (strs R)) := by
   unfold strs;rw [sliceOf_all (by simp)]
  simp only [c84r9, hsl, go_sem, true_implies]
theorem k86 {l : List UInt8} (hl : l.length <= 1000) : E.Fn Tryz.prog 86 [.str (bL l)] [.int .i64 (numR l).1, .bool (numR l).2] := by
 refine fn_of_row okf86 ?_;generalize hR : numR l = R;unfold numR at hR;simp only [FRow.start, f86, c86r0, c86r1, bL_size, go_sem, Nat.reduceSub, true_implies];refine ⟨fun h0 => ?_, fun h0 => ⟨fun h9 => ?_, fun h9 => ?_⟩⟩
 ·rw [if_pos (.inl (by omega))] at hR
  subst hR; simp only [c86r2, go_sem, true_implies]
 ·rw [if_pos (.inr (.inl (by omega)))] at hR
  subst hR; simp only [c86r2, go_sem, true_implies]
 ·obtain ⟨y, l', hly⟩ : ∃ y l', l = y :: l' := by
   cases l with
   | nil => exact absurd rfl h0
   | cons y l' => exact ⟨y, l', rfl⟩
  have hg0 : (bL l).data[0]? = some y := by rw [hly]; rfl
  have hh : l.head? = some y := by rw [hly]; rfl
  simp only [sidxK, hg0, intK, bL_size, Int.toNat_zero, go_sem, true_implies];have hy48 : y.toNat = 48 ↔ y = 48 := ⟨fun h => UInt8.toNat_inj.1 h, fun h => by rw [h]; rfl⟩
  refine ⟨fun h1 => ⟨fun h2 => ?_, fun h2 => ?_⟩, fun h1 => ?_⟩
  ·rw [if_pos (.inr (.inr ⟨by rw [hh, hy48.1 (by omega)], by omega⟩))] at hR
   subst hR; simp only [c86r2, go_sem, true_implies]
  all_goals
   have hc : ¬ (l.length = 0 \/ 9 < l.length \/ l.head? = some 48 /\ 1 < l.length) := by
    rintro (h | h | ⟨h, h'⟩)
    ·omega
    ·omega
    ·rw [hh] at h
     have := hy48.2 (Option.some.inj h);omega
   rw [if_neg hc] at hR;clear hc h1;simp only [c86r3, c86r4, go_sem, true_implies]
   refine loop_rule (fun k τ => ∃ i n : Nat, k = l.length - i /\ i <= l.length /\ digs 0 (l.take i) = some n /\ n < 10 ^ i /\
    τ = ⟨((.s (.str (bL l)))::aN::aN::aN::(aI n)::(aI i)::aN::aN::aN::aZ40), []⟩) l.length rfl ?_ ?_
   ·simp only [c86l10m, go_sem]
    exact ⟨0, 0, rfl, Nat.zero_le _, rfl, by decide, rfl⟩
   rintro I k τ ⟨i, n, rfl, hi, hd, hn, rfl⟩ hI;simp only [c86l10, c86r5, bL_size, go_sem, ↓reduceIte, true_implies];refine ⟨fun hlt => ?_, fun hge => ?_⟩
   ·have hx : l[i]? = some l[i] := List.getElem?_eq_getElem hlt
    generalize l[i] = x at hx;have hx2 := x.toNat_lt;have ht := take_snoc hx;have hbx : (bL l).data[i]? = some x := by simp [bL, hx]
    have hbad : (x.toNat < 48 \/ 57 < x.toNat) -> R = (0, false) := fun hb => by rw [<- hR, digs_bad hd hx hb]
    simp only [c86r6, sidxK, Int.toNat_natCast, hbx, intK, go_sem, true_implies];refine ⟨fun hb => ?_, fun hb => ⟨fun hb2 => ?_, fun hb2 => ?_⟩⟩
    ·rw [hbad (.inl (by omega))]; simp only [c86r7, go_sem, true_implies]
    ·rw [hbad (.inr (by omega))]; simp only [c86r7, go_sem, true_implies]
    ·simp only [c86r8, sidxK, Int.toNat_natCast, hbx, intK, go_sem, true_implies]
     have hn9 : n < 10 ^ 9 := Nat.lt_of_lt_of_le hn (Nat.pow_le_pow_right (by decide) (by omega))
     have hns : 10 * n + (x.toNat - 48) < 10 ^ (i + 1) := by rw [Nat.pow_succ]; omega
     have ex : (10 * (n : Int) + ((x.toNat : Int) - 48)) = ((10 * n + (x.toNat - 48) : Nat) : Int) := by omega
     have hd2 : digs 0 (l.take (i + 1)) = some (10 * n + (x.toNat - 48)) := by
      rw [ht, digs_snoc, hd];simp only;rw [if_neg (by omega)]
     rw [ex];refine ⟨inR_small (by omega) (by omega), inR_u8 (by omega) (by omega), inR_small (by omega) (by omega), inR_small (by omega) (by omega), ?_⟩
     simp only [c86r9, c86l10m, go_sem, true_implies];exact ⟨inR_small (by omega) (by omega), hI (l.length - (i + 1)) _ (by omega) ⟨i + 1, _, rfl, by omega, hd2, hns, rfl⟩⟩
   ·have hi2 : i = l.length := by omega
    subst hi2;rw [List.take_length] at hd;rw [hd] at hR;subst hR;simp only [c86r11, go_sem, true_implies]
theorem bL_data {l : List UInt8} : (bL l).data.toList = l := by simp [bL]
theorem bL_inj {a b : List UInt8} (h : bL a = bL b) : a = b := by rw [<- bL_data (l := a), h, bL_data]
theorem bL_of (s : ByteArray) : bL s.data.toList = s := by apply ByteArray.ext; simp [bL]
theorem spl_prt {c : UInt8} {l : List UInt8} : spl (bL l) (bL [c]) = (prt c l).map bL := by
 have h := Lib.splitB_data (bL [c]) 0 (Lib.countB (bL l) (bL [c])) (bL l)
 have hc : Lib.countB (bL l) (bL [c]) = Lib.count l [c] := by
  show Lib.count (bL l).data.toList (bL [c]).data.toList = _
  rw [bL_data, bL_data]
 rw [bL_data, bL_data, hc, prt_count] at h;unfold spl;rw [hc, <- h, List.map_map]
 conv => lhs; rw [<- List.map_id (Lib.splitB _ _ _ _)]
 exact List.map_congr_left fun s _ => (bL_of s).symm
theorem nuV_bL {l : List UInt8} : nuV (bL l) = nuL l := by unfold nuV nuL; rw [bL_data]; cases Lib.atoiAll l <;> rfl
theorem nuB_bL {l : List UInt8} : nuB (bL l) = nuF l := by
 unfold nuB nuF;rw [bL_data];have : (bL l).toList = l := by rw [ByteArray.toList_eq]; exact bL_data
 simp only [bL_size, this];rfl
def kdL (c : List UInt8) : Int := Lib.idxOfS wds (bL c) + 1
def enR (l : List UInt8) : Ent × Bool := match prt 32 l with
 | [a, b, c, d] => if kdL c = 0 \/ (numR a).2 = false \/ (numR b).2 = false \/ (numR d).2 = false then (⟨0, 0, 0, 0⟩, false) else (⟨(numR a).1, (numR b).1, kdL c, (numR d).1⟩, true)
 | _ => (⟨0, 0, 0, 0⟩, false)
theorem ldV_eq (l : List UInt8) : (ldV (bL l)).2 = (enR l).2 /\ ((enR l).2 = true -> (ldV (bL l)).1 = (enR l).1) := by
 unfold ldV enR;rw [spl_prt]
 match prt 32 l with
 | [a, b, c, d] =>
  have ha := nuF_eq a; have hb := nuF_eq b; have hd := nuF_eq d;have hk := wdx (bL c);simp only [List.map_cons, List.map_nil, nuV_bL, nuB_bL, ha.1, hb.1, hd.1]
  by_cases h : kdL c = 0 \/ (numR a).2 = false \/ (numR b).2 = false \/ (numR d).2 = false
  ·rw [if_pos h]
   refine ⟨?_, fun h => by cases h⟩
   rcases h with h | h | h | h
   ·have : Lib.idxOfS wds (bL c) + 1 = 0 := h
    rw [this]; simp
   ·rw [h]; simp
   ·rw [h]; simp
   ·rw [h]; simp
  ·rw [if_neg h]
   have h1 : kdL c ≠ 0 := fun e => h (.inl e)
   have h2 : (numR a).2 = true := by cases e : (numR a).2 with | true => rfl | false => exact absurd (.inr (.inl e)) h
   have h3 : (numR b).2 = true := by cases e : (numR b).2 with | true => rfl | false => exact absurd (.inr (.inr (.inl e))) h
   have h4 : (numR d).2 = true := by cases e : (numR d).2 with | true => rfl | false => exact absurd (.inr (.inr (.inr e))) h
   rw [h2, h3, h4, ha.2 h2, hb.2 h3, hd.2 h4];have : 0 < Lib.idxOfS wds (bL c) + 1 := by unfold kdL at h1; omega
   exact ⟨by rw [decide_eq_true this]; rfl, fun _ => rfl⟩
 | [] => exact ⟨rfl, fun h => by cases h⟩
 | [_] => exact ⟨rfl, fun h => by cases h⟩
 | [_, _] => exact ⟨rfl, fun h => by cases h⟩
 | [_, _, _] => exact ⟨rfl, fun h => by cases h⟩
 | _ :: _ :: _ :: _ :: _ :: _ => exact ⟨rfl, fun h => by cases h⟩
theorem wds_ne : ∀ i : Nat, i < 5 -> ∀ j, j < i -> wdL.getD i [] ≠ wdL.getD j [] := by decide
theorem kd_hit {c : List UInt8} {j : Nat} (hj : j < 5) (h : wdL.getD j [] = c) : kdL c = (j : Int) + 1 := by
 have hg : ∀ i, i < 5 -> wds.getD i ByteArray.empty = bL (wdL.getD i []) := fun i hi => by rw [List.getD, wds_get (by omega)]; rfl
 have := Lib.idxOfS_hit wds 5 j (bL c) hj (by decide) (by rw [hg j hj, h]) fun i hi => by
  rw [hg i (by omega), <- h]
  exact fun e => wds_ne j hj i hi (bL_inj e).symm
 have e : wds.take 5 = wds := rfl;rw [e] at this;unfold kdL; omega
theorem kd_miss {c : List UInt8} (h : ∀ j, j < 5 -> wdL.getD j [] ≠ c) : kdL c = 0 := by
 have hg : ∀ i, i < 5 -> wds.getD i ByteArray.empty = bL (wdL.getD i []) := fun i hi => by rw [List.getD, wds_get (by omega)]; rfl
 have := Lib.idxOfS_miss wds 5 (bL c) fun j hj => by
  rw [hg j hj]; exact fun e => h j hj (bL_inj e)
 have e : wds.take 5 = wds := rfl;rw [e] at this;unfold kdL; omega
theorem k85 {l : List UInt8} (hl : l.length <= 1000) : E.Fn Tryz.prog 85 [.str (bL l)] [ent (enR l).1, .bool (enR l).2] := by
 refine fn_of_row okf85 ?_;generalize hR : enR l = R;have hsz : ∀ p ∈ prt 32 l, p.length <= l.length := fun p => prt_len
 have h84 := k84 (c := 32) hl;unfold enR at hR;generalize prt 32 l = P at hR hsz h84;have e32 : ((32 : UInt8).toNat : Int) = 32 := rfl;rw [e32] at h84;simp only [FRow.start, f85, c85r0, c85r1, go_sem, Nat.reduceSub, true_implies];refine callK_of (by simp only [go_sem]) h84 (.inr (by simp only [go_sem]; exact .inl trivial)) ?_
 simp only [c85r2, go_sem, true_implies];intro hmx;refine ⟨fun h => ?_, fun h => ?_⟩
 case refine_2 =>
  have e : R = (⟨0, 0, 0, 0⟩, false) := by
   rw [<- hR]
   match P, h with
   | [], _ => rfl
   | [_], _ => rfl
   | [_, _], _ => rfl
   | [_, _, _], _ => rfl
   | _ :: _ :: _ :: _ :: _ :: _, _ => rfl
  subst e;simp only [c85r3, ent, spl4, go_sem, Nat.reduceAdd, true_implies]
 obtain ⟨a, b, c, d, rfl⟩ : ∃ a b c d, P = [a, b, c, d] := by
  match P, h with
  | [a, b, c, d], _ => exact ⟨a, b, c, d, rfl⟩
 have ha := hsz a (by simp); have hb := hsz b (by simp); have hc := hsz c (by simp); have hd := hsz d (by simp)
 simp only at hR;clear hmx h h84 hsz;have es : strs [a, b, c, d] = [.str (bL a), .str (bL b), .str (bL c), .str (bL d)] := rfl;rw [es];simp only [c85r4, c85r5, go_sem, Nat.reduceAdd, true_implies]
 refine loop_rule (fun k τ => ∃ (i : Nat) (kd : Int), k = 5 - i /\ i <= 5 /\ (((∀ j, j < i -> wdL.getD j [] ≠ c) /\ kd = 0) \/ ∃ j, j < i /\ wdL.getD j [] = c /\ kd = (j : Int) + 1) /\
  τ = ⟨(aN::aN::(.loc 0 0)::aN::(.s (.slice [.str (bL a), .str (bL b), .str (bL c), .str (bL d)]))::(aI kd)::(aI ((i : Int) + 1))::aZ64), [.obj [aI 0, aI 0, aI 0, aI 0]]⟩) 5 rfl ?_ ?_
 ·simp only [c85l10m, go_sem, ↓reduceIte, reduceCtorEq, Nat.reduceLeDiff]
  exact ⟨0, 0, rfl, by decide, .inl ⟨fun j h => absurd h (Nat.not_lt_zero _), rfl⟩, rfl⟩
 rintro I k τ ⟨i, kd, rfl, hi, hkd, rfl⟩ hI;simp only [c85l10, c85r6, go_sem, ↓reduceIte, true_implies];refine ⟨fun hlt => ?_, fun hge => ?_⟩
 ·simp only [c85r7, go_sem, Int.reduceLE, Int.reduceToNat]
  refine callK_of (by simp only [go_sem]) (k107 (j := i) (by omega)) (.inl rfl) ?_
  simp only [go_sem, true_implies];refine ⟨fun he => ?_, fun he => ?_⟩
  ·have he : wdL.getD i [] = c := by
    have := SV.str.inj he;exact (bL_inj this).symm
   simp only [c85r8, c85r9, c85l10m, go_sem, ↓reduceIte, reduceCtorEq, Nat.reduceLeDiff, true_implies];exact ⟨inR_small (by omega) (by omega), hI (5 - (i + 1)) _ (by omega) ⟨i + 1, (i : Int) + 1, rfl, by omega, .inr ⟨i, by omega, he, rfl⟩, rfl⟩⟩
  ·have he : wdL.getD i [] ≠ c := fun e => he (by rw [e])
   simp only [c85r9, c85l10m, go_sem, ↓reduceIte, reduceCtorEq, Nat.reduceLeDiff, true_implies];refine ⟨inR_small (by omega) (by omega), hI (5 - (i + 1)) _ (by omega) ⟨i + 1, kd, rfl, by omega, ?_, rfl⟩⟩
   rcases hkd with ⟨h1, h2⟩ | ⟨j, h1, h2, h3⟩
   ·refine .inl ⟨fun j hj => ?_, h2⟩
    by_cases e : j = i
    ·rw [e]; exact he
    ·exact h1 j (by omega)
   ·exact .inr ⟨j, by omega, h2, h3⟩
 ·have hk : kd = kdL c := by
   rcases hkd with ⟨h1, h2⟩ | ⟨j, h1, h2, h3⟩
   ·rw [h2, kd_miss fun j hj => h1 j (by omega)]
   ·rw [h3, kd_hit (by omega) h2]
  subst hk;clear hkd hI;generalize kdL c = q at *;simp only [c85r11, go_sem, Int.reduceToNat];refine callK_of (by simp only [go_sem]) (k86 (l := a) (by omega)) (.inl rfl) ?_
  simp only [c85r12, go_sem, Int.reduceLE, Int.reduceToNat, true_implies];refine callK_of (by simp only [go_sem]) (k86 (l := b) (by omega)) (.inl rfl) ?_
  simp only [c85r13, go_sem, Int.reduceLE, Int.reduceToNat, true_implies];refine callK_of (by simp only [go_sem]) (k86 (l := d) (by omega)) (.inl rfl) ?_
  generalize numR a = xa at *; generalize numR b = xb at *; generalize numR d = xd at *;obtain ⟨na, ba⟩ := xa; obtain ⟨nb, bb⟩ := xb; obtain ⟨nd, bd⟩ := xd;have hbad : (q = 0 \/ ba = false \/ bb = false \/ bd = false) -> R = (⟨0, 0, 0, 0⟩, false) := fun h => by rw [<- hR, if_pos h]
  have hgood : ¬ (q = 0 \/ ba = false \/ bb = false \/ bd = false) -> R = (⟨na, nb, q, nd⟩, true) := fun h => by rw [<- hR, if_neg h]
  clear hR
  cases ba <;> cases bb <;> cases bd <;> (simp only [c85r14, go_sem, true_implies]) <;> refine ⟨fun hq => ?_, fun hq => ?_⟩
  all_goals first
   | (rw [hbad (by simp [hq])]; simp only [c85r15, ent, spl4, go_sem, Nat.reduceAdd, true_implies]; done)
   | (rw [hgood (by simp [hq])]; simp only [c85r16, ent, spl4, go_sem, ↓reduceIte, Nat.reduceAdd, Nat.reduceLeDiff, true_implies]; done)
def endN (z : List UInt8) : Option Int := match prt 32 z with
 | [e, d] => if e = [101, 110, 100] /\ (numR d).2 = true then some (numR d).1 else none
 | _ => none
def bodyR (B : List (List UInt8)) (z : List UInt8) : List Ent × Int :=
 if B.all (fun p => (enR p).2) = true then match endN z with
  | none => ([], 8)
  | some n => if n = B.length then (if ckS (B.map fun p => (enR p).1) = 0 then (B.map fun p => (enR p).1, 0) else ([], ckS (B.map fun p => (enR p).1))) else ([], 16)
 else ([], 8)
def lodR (l : List UInt8) : List Ent × Int :=
 if 500 < l.length then ([], 7)
 else if l.getLast? = some 10 then bodyR (prt 10 l.dropLast).dropLast ((prt 10 l.dropLast).getLastD []) else ([], 8)
theorem split_last {α : Type} {P : List α} (h : P ≠ []) : ∃ Q q, P = Q ++ [q] := ⟨P.dropLast, P.getLast h, (List.dropLast_concat_getLast h).symm⟩
theorem lod_nl {l : List UInt8} (h : l.getLast? = some 10) : ∃ B z, prt 10 l = B ++ [z, []] /\ prt 10 l.dropLast = B ++ [z] := by
 have hne : l ≠ [] := fun e => by rw [e] at h; cases h
 obtain ⟨t, x, rfl⟩ := split_last hne;rw [List.getLast?_concat] at h
 cases h
 obtain ⟨B, z, hB⟩ := split_last (prt_ne 10 t);refine ⟨B, z, ?_, ?_⟩
 ·rw [prt_snoc, prtS, if_pos rfl, hB]; simp
 ·rw [List.dropLast_concat, hB]
theorem lod_no {l : List UInt8} (h : l.getLast? ≠ some 10) : (prt 10 l).length < 2 \/ ∃ Q q, prt 10 l = Q ++ [q] /\ q ≠ [] := by
 by_cases hne : l = []
 ·subst hne; exact .inl (by decide)
 ·obtain ⟨t, x, rfl⟩ := split_last hne
  rw [List.getLast?_concat] at h;refine .inr ⟨_, _, by rw [prt_snoc, prtS, if_neg (fun e => h (by rw [e]))], by simp⟩
theorem strs_app {A B : List (List UInt8)} : strs (A ++ B) = strs A ++ strs B := by simp [strs]
theorem strs_len {A : List (List UInt8)} : (strs A).length = A.length := by simp [strs]
theorem strs_get {A : List (List UInt8)} {i : Nat} : (strs A)[i]? = (A[i]?).map fun p => SV.str (bL p) := by simp [strs]
theorem k43 {l : List UInt8} (hl : l.length <= 1000) : E.Fn Tryz.prog 43 [.str (bL l)] [ssn (lodR l).1, .int .i64 (lodR l).2] := by
 refine fn_of_row okf43 ?_;generalize hR : lodR l = R;unfold lodR at hR;have e10 : ((10 : UInt8).toNat : Int) = 10 := rfl;have h84 := k84 (c := 10) hl;rw [e10] at h84;simp only [FRow.start, f43, c43r0, c43r1, bL_size, go_sem, Nat.reduceSub, true_implies];refine ⟨fun hlt => ?_, fun hge => ?_⟩
 ·rw [if_pos (by omega)] at hR
  subst hR;simp only [c43r2, spl_one, ssn, ents, go_sem, true_implies]
 rw [if_neg (by omega)] at hR
 have hsz : ∀ p ∈ prt 10 l, p.length <= 500 := fun p hp => Nat.le_trans (prt_len hp) (by omega)
 have hnum := prt_num 10 l;simp only [c43r3, go_sem];refine callK_of (by simp only [go_sem]) h84 (.inr (by simp only [go_sem]; exact .inl trivial)) ?_
 by_cases hnl : l.getLast? = some 10
 case neg =>
  rw [if_neg hnl] at hR;subst hR;have hno := lod_no hnl;simp only [c43r4, strs_len, go_sem, true_implies];refine ⟨fun h2 _ => ?_, fun h2 => ?_⟩
  ·simp only [c43r5, spl_one, ssn, ents, go_sem, true_implies]
  ·obtain ⟨Q, q, hq, hqne⟩ := hno.resolve_left (by omega)
   rw [hq] at hnum ⊢;have hql : (Q ++ [q]).length = Q.length + 1 := by simp
   have hget : (strs (Q ++ [q]))[Q.length]? = some (.str (bL q)) := by rw [strs_get]; simp
   have hqb : SV.str (bL q) ≠ .str (ByteArray.mk #[]) := fun e => hqne (bL_inj (SV.str.inj e))
   have ez : ((Q ++ [q]).length : Int) - 1 = Q.length := by omega
   rw [ez];refine ⟨inR_small (by omega) (by omega), by omega, ?_⟩
   simp only [Int.toNat_natCast, hget, go_sem];refine fun _ => ⟨fun h => absurd h hqb, fun _ => ?_⟩
   simp only [c43r5, spl_one, ssn, ents, go_sem, true_implies]
 rw [if_pos hnl] at hR;obtain ⟨B, z, hP, hQ⟩ := lod_nl hnl;rw [hQ, List.dropLast_concat, List.getLastD_concat] at hR;rw [hP] at hsz hnum ⊢;clear hP hQ h84;have hPl : (B ++ [z, []]).length = B.length + 2 := by simp
 have hBl : B.length <= 500 := by rw [hPl] at hnum; omega
 simp only [c43r4, strs_len, go_sem, true_implies];refine ⟨fun h2 => absurd h2 (by omega), fun _ => ?_⟩
 have hget : (strs (B ++ [z, []]))[B.length + 1]? = some (.str (ByteArray.mk #[])) := by rw [strs_get]; simp; rfl
 have ez : ((B ++ [z, []]).length : Int) - 1 = (B.length + 1 : Nat) := by omega
 rw [ez];refine ⟨inR_small (by omega) (by omega), by omega, ?_⟩
 simp only [Int.toNat_natCast, hget, go_sem];intro _;simp only [c43r6, c43r7, go_sem, Nat.reduceAdd, true_implies];clear hget ez
 refine loop_rule (fun k τ => ∃ i : Nat, k = B.length - i /\ i <= B.length /\ (∀ p ∈ B.take i, (enR p).2 = true) /\
  τ = ⟨[.any, .any, .loc 0 0, .any, .s (.slice (strs (B ++ [z, []]))), .loc 1 0, aI i, .any, .any, .any, .any, .any, .any, .any, .any, .any, .any, .any, .any, .any, .any, .any, .any, .any, .any, .any, .any, .any, .any, .any, .any, .any, .any, .any, .any, .any, .any, .any, .any, .any, .any, .any, .any, .any, .any, .any, .any, .any, .any, .any, .any, .any, .any, .any, .any, .any, .any, .any, .any, .any, .any, .any, .any, .any, .any, .any, .any, .any, .any, .any, .any, .any, .any, .any, .any, .any, .any, .any, .any, .any, .any, .any, .any, .any, .any, .any, .any, .any, .any, .any, .any, .any, .any, .any, .any], [.obj [.full []], .obj [.sl 2 0 (B.take i).length 4 false], .row (flE ((B.take i).map fun p => (enR p).1))]⟩) B.length rfl ?_ ?_
 ·simp only [c43l14m, go_sem]
  exact ⟨0, rfl, Nat.zero_le _, fun p h => by simp at h, rfl⟩
 rintro I k τ ⟨i, rfl, hi, hok, rfl⟩ hI;have hlt' : (B.take i).length = i := by rw [List.length_take]; omega
 simp only [c43l14, c43r8, strs_len, hPl, go_sem, ↓reduceIte, Nat.reduceAdd];refine ⟨inR_small (by omega) (by omega), fun _ => ⟨fun hlt => ?_, fun hge => ?_⟩⟩
 ·have hlt : i < B.length := by omega
  have hx : B[i]? = some B[i] := List.getElem?_eq_getElem hlt;have hpx := hsz B[i] (List.mem_append_left _ (List.getElem_mem hlt));generalize B[i] = p at hx hpx;have ht := take_snoc hx;have hget : (strs (B ++ [z, []]))[i]? = some (.str (bL p)) := by rw [strs_get, List.getElem?_append_left hlt, hx]; rfl
  simp only [c43r9, hget, go_sem];refine callK_of (by simp only [go_sem]) (k85 (l := p) (by omega)) (.inl rfl) ?_
  cases hp : (enR p).2 with
  | false =>
   have e : R = ([], 8) := by
    rw [<- hR]; unfold bodyR;rw [if_neg];intro h;have := List.all_eq_true.1 h p (List.mem_of_getElem? hx);rw [hp] at this; cases this
   subst e;simp only [ent, spl4, c43r10, c43r11, spl_one, ssn, ents, go_sem, Nat.reduceAdd, true_implies]
  | true =>
   simp only [ent, spl4, c43r10, c43r12, go_sem, Nat.reduceAdd, Nat.reduceLeDiff, Nat.reduceMul, true_implies];refine ⟨by decide, by decide, rfl, four_cells, four_cells, by rw [flE_len, List.length_map]; omega, by omega, by omega, ?_⟩
   have hes : (B.take (i + 1)).map (fun p => (enR p).1) = (B.take i).map (fun p => (enR p).1) ++ [(enR p).1] := by rw [ht, List.map_append]; rfl
   have hsn : flE ((B.take i).map fun p => (enR p).1) ++ flatE [SV.agg [.int .i64 (enR p).1.m, .int .i64 (enR p).1.n, .int .i64 (enR p).1.k, .int .i64 (enR p).1.a]] = flE ((B.take (i + 1)).map fun p => (enR p).1) := by
    rw [hes]; exact flE_snoc
   rw [hsn];simp only [spl_one, Nat.reduceBEq, Bool.false_eq_true, beq_self_eq_true, c43r13, c43l14m, go_sem, ↓reduceIte, Nat.reduceAdd, true_implies];refine ⟨inR_small (by omega) (by omega), hI (B.length - (i + 1)) _ (by omega) ⟨i + 1, rfl, by omega, fun q hq => ?_, ?_⟩⟩
   ·rw [ht] at hq
    rcases List.mem_append.1 hq with hq | hq
    ·exact hok q hq
    ·simp only [List.mem_singleton] at hq
     subst hq; exact hp
   ·rw [ht, List.length_append]; rfl
 ·have hi2 : i = B.length := by omega
  subst hi2;rw [List.take_length] at hok ⊢;clear hI hi;have hzl := hsz z (by simp)
  have hall : B.all (fun p => (enR p).2) = true := List.all_eq_true.2 hok
  unfold bodyR at hR;rw [if_pos hall] at hR;generalize hL : B.map (fun p => (enR p).1) = L at *
  have hLl : L.length = B.length := by rw [<- hL, List.length_map]
  have ez : ((B.length + 2 : Nat) : Int) - 2 = B.length := by omega
  have hget : (strs (B ++ [z, []]))[B.length]? = some (.str (bL z)) := by rw [strs_get]; simp
  simp only [c43r15, strs_len, hPl, ez, Int.toNat_natCast, hget, go_sem];refine ⟨inR_small (by omega) (by omega), ?_⟩
  have h84 := k84 (c := 32) (l := z) (by omega)
  have e32 : ((32 : UInt8).toNat : Int) = 32 := rfl;rw [e32] at h84;refine callK_of (by simp only [go_sem]) h84 (.inr (by simp only [go_sem]; exact .inl trivial)) ?_
  have hsz2 : ∀ p ∈ prt 32 z, p.length <= z.length := fun p => prt_len
  unfold endN at hR;generalize prt 32 z = P at hR hsz2;clear h84 hall hok;simp only [c43r16, strs_len, go_sem, Nat.reduceAdd, Int.reduceToNat];intro _;refine ⟨fun h2 => ?_, fun h2 _ => ?_⟩
  case refine_2 =>
   have e : R = ([], 8) := by
    rw [<- hR]
    match P, h2 with
    | [], _ => rfl
    | [_], _ => rfl
    | _ :: _ :: _ :: _, _ => rfl
   subst e;simp only [c43r17, spl_one, ssn, ents, go_sem, true_implies]
  obtain ⟨e, d, rfl⟩ : ∃ e d, P = [e, d] := by
   match P, h2 with
   | [e, d], _ => exact ⟨e, d, rfl⟩
  have hd := hsz2 d (by simp)
  simp only at hR;clear h2 hsz2;have es : strs [e, d] = [.str (bL e), .str (bL d)] := rfl;have bend : (ByteArray.mk #[101, 110, 100]) = bL [101, 110, 100] := rfl;rw [es];simp only [bend, go_sem, Nat.reduceAdd];intro _;refine ⟨fun he => ?_, fun he => ?_⟩
  case refine_2 =>
   have he : e ≠ [101, 110, 100] := fun h => he (by rw [h])
   rw [if_neg fun h => he h.1] at hR
   simp only at hR;subst hR;simp only [c43r17, spl_one, ssn, ents, go_sem, true_implies]
  have he : e = [101, 110, 100] := bL_inj (SV.str.inj he);simp only [c43r18, go_sem, Int.reduceLE, Int.reduceToNat];refine callK_of (by simp only [go_sem]) (k86 (l := d) (by omega)) (.inl rfl) ?_
  generalize numR d = X at *;obtain ⟨n, b⟩ := X
  cases b with
  | false =>
   rw [if_neg (by simp)] at hR
   simp only at hR;subst hR;simp only [c43r19, c43r20, spl_one, ssn, ents, go_sem, Nat.reduceAdd, true_implies]
  | true =>
   rw [if_pos ⟨he, rfl⟩] at hR;simp only at hR;have hse := slice_ents (l := L) (n := B.length) hLl.symm;simp only [c43r19, c43r21, go_sem, Nat.reduceAdd, true_implies];intro _;refine ⟨fun hn => ?_, fun hn => ?_⟩
   case refine_2 =>
    rw [if_neg hn] at hR;subst hR;simp only [c43r22, spl_one, ssn, ents, go_sem, true_implies]
   rw [if_pos hn] at hR;simp only [c43r23, go_sem];refine callK_of (by simp only [hse, ssn, go_sem]) (k26 (L := L)) (.inl rfl) ?_
   by_cases hA : ckS L = 0
   case neg =>
    rw [if_neg hA] at hR;subst hR;simp only [hA, c43r24, go_sem, Nat.reduceAdd, true_implies];refine callK_of (by simp only [hse, ssn, go_sem]) (k26 (L := L)) (.inl rfl) ?_
    simp only [spl_one, ssn, ents, go_sem, true_implies]
   rw [if_pos hA] at hR;subst hR;simp only [hA, c43r25, hse, spl_one, ssn, go_sem, Nat.reduceAdd, true_implies]
theorem bl_toList {l : List UInt8} : (bL l).toList = l := by rw [ByteArray.toList_eq]; exact bL_data
theorem bl_ext {l : List UInt8} {a b : Nat} : (bL l).extract a b = bL ((l.drop a).take (b - a)) := by
 apply ByteArray.ext
 simp only [bL, ByteArray.data_extract]
 apply Array.ext'
 simp [List.drop_take]
theorem suf_nl {l : List UInt8} : hasSuf (bL l) (bL [10]) = decide (l.getLast? = some 10) /\ (l.getLast? = some 10 -> cutSuf (bL l) (bL [10]) = bL l.dropLast) := by
 have key : hasSuf (bL l) (bL [10]) = decide (l.getLast? = some 10) := by
  unfold hasSuf;rw [bl_ext, bl_toList, bl_toList, bL_size, bL_size]
  by_cases h : l = []
  ·subst h; rfl
  ·obtain ⟨t, x, rfl⟩ := split_last h
   have e1 : (t ++ [x]).length - ([10] : List UInt8).length = t.length := by simp
   rw [e1, List.drop_left, List.getLast?_concat, Bool.eq_iff_iff];simp
 refine ⟨key, fun h => ?_⟩
 unfold cutSuf;rw [if_pos (by rw [key]; exact decide_eq_true h), bl_ext, bL_size]
 congr 1
 rw [List.drop_zero, List.dropLast_eq_take];rfl
theorem end_eq {z : List UInt8} : (endN z = none /\ (hasPre (bL z) (bL [101, 110, 100, 32]) && nuB (cutPre (bL z) (bL [101, 110, 100, 32]))) = false) \/
  (∃ n, endN z = some n /\ hasPre (bL z) (bL [101, 110, 100, 32]) = true /\ nuB (cutPre (bL z) (bL [101, 110, 100, 32])) = true /\ nuV (cutPre (bL z) (bL [101, 110, 100, 32])) = n) := by
 have hp : hasPre (bL z) (bL [101, 110, 100, 32]) = true ↔ ∃ d, z = [101, 110, 100, 32] ++ d := by
  unfold hasPre;rw [bl_ext, bl_toList, bl_toList, bL_size, bL_size, List.drop_zero];constructor
  ·intro h
   simp only [Bool.and_eq_true, decide_eq_true_eq, beq_iff_eq] at h;exact ⟨z.drop 4, by rw [<- h.2]; exact (List.take_append_drop 4 z).symm⟩
  ·rintro ⟨d, rfl⟩
   simp
 have hc : ∀ d, z = [101, 110, 100, 32] ++ d -> cutPre (bL z) (bL [101, 110, 100, 32]) = bL d := fun d hd => by
  unfold cutPre;rw [if_pos (hp.2 ⟨d, hd⟩), bl_ext, bL_size, bL_size]
  congr 1
  subst hd;simp
 have h32 : ∀ d : List UInt8, (numR d).2 = true -> (32 : UInt8) ∉ d := by
  intro d hd hm;unfold numR at hd
  split at hd
  ·cases hd
  ·cases hg : digs 0 d with
   | none => rw [hg] at hd; cases hd
   | some n =>
    have := digs_bad2 (x := 32) (.inl (by decide)) (a := 0) hm
    rw [hg] at this; cases this
 cases he : endN z with
 | none =>
  refine .inl ⟨rfl, ?_⟩
  cases hb : hasPre (bL z) (bL [101, 110, 100, 32]) with
  | false => rfl
  | true =>
   obtain ⟨d, hd⟩ := hp.1 hb;rw [hc d hd, nuB_bL, (nuF_eq d).1]
   cases hn : (numR d).2 with
   | false => rfl
   | true =>
    exfalso;unfold endN at he
    have : prt 32 z = [[101, 110, 100], d] := by
     rw [hd, show ([101, 110, 100, 32] ++ d : List UInt8) = [101, 110, 100] ++ 32 :: d from rfl, prt_app (by decide), prt_none (h32 d hn)]
    rw [this] at he;simp only at he;rw [if_pos ⟨trivial, hn⟩] at he
    cases he
 | some n =>
  refine .inr ⟨n, rfl, ?_⟩;unfold endN at he
  split at he
  ·rename_i e d hq
   split at he
   ·rename_i h
    obtain ⟨rfl, hn⟩ := h
    cases he
    have hd : z = [101, 110, 100, 32] ++ d := prt_two hq;exact ⟨hp.2 ⟨d, hd⟩, by rw [hc d hd, nuB_bL, (nuF_eq d).1, hn], by rw [hc d hd, nuV_bL, (nuF_eq d).2 hn]⟩
   ·cases he
  ·cases he
theorem k42 {l : List UInt8} (hl : l.length <= 1000) : E.Fn Tryz.prog 42 [.str (bL l)] [ssn (lodR l).1, .int .i64 (lodR l).2] := by
 refine fn_of_row okf42 ?_;generalize hR : lodR l = R;unfold lodR at hR;have b10 : (ByteArray.mk #[10]) = bL [10] := rfl;have hcut := suf_nl (l := l);simp only [FRow.start, f42, c42r0, c42r1, bL_size, go_sem, Nat.reduceSub, true_implies];refine ⟨fun hlt => ?_, fun hge => ?_⟩
 ·rw [if_pos (by omega)] at hR
  subst hR;simp only [c42r2, spl_one, ssn, ents, go_sem, true_implies]
 rw [if_neg (by omega)] at hR
 have hsz : ∀ p ∈ prt 10 l, p.length <= 500 := fun p hp => Nat.le_trans (prt_len hp) (by omega)
 have hnum := prt_num 10 l;simp only [c42r3, b10, go_sem];refine callK_of (by simp only [go_sem]) (k79 (s := bL l) (p := bL [10]) (by rw [bL_size]; omega)) (.inl rfl) ?_
 by_cases hnl : l.getLast? = some 10
 case neg =>
  rw [if_neg hnl] at hR;subst hR;rw [hcut.1, decide_eq_false hnl];simp only [c42r4, c42r5, spl_one, ssn, ents, go_sem, true_implies]
 rw [if_pos hnl] at hR;rw [hcut.1, decide_eq_true hnl, hcut.2 hnl];obtain ⟨B, z, hP, hQ⟩ := lod_nl hnl;rw [hP] at hsz hnum;simp only [c42r4, c42r6, b10, go_sem, true_implies];refine callK_of (by simp only [go_sem]) (k80 (s := bL l.dropLast) (sep := bL [10]) (by rw [bL_size, List.length_dropLast]; omega) (by decide)) (.inr (by simp only [go_sem]; exact .inl trivial)) ?_
 rw [spl_prt, hQ];rw [hQ, List.dropLast_concat, List.getLastD_concat] at hR;clear hP hQ hcut;have hPl : (B ++ [z]).length = B.length + 1 := by simp
 have hBl : B.length <= 500 := by simp at hnum; omega
 have est : ((B ++ [z]).map bL).map SV.str = strs (B ++ [z]) := by simp [strs]
 rw [est];have ez : ((B.length + 1 : Nat) : Int) - 1 = B.length := by omega
 have hse : (if (0 : Int) <= (B.length : Int) then some (B.length : Int).toNat else none) = some B.length := by rw [if_pos (by omega), Int.toNat_natCast]
 have htk : (strs (B ++ [z])).take (B.length - 0) = strs B := by
  rw [Nat.sub_zero, strs_app, List.take_append_of_le_length (by rw [strs_len]; exact Nat.le_refl _), List.take_of_length_le (by rw [strs_len]; exact Nat.le_refl _)]
 simp only [c42r7, c42r8, strs_len, hPl, ez, htk, go_sem, ↓reduceIte, Nat.reduceAdd, true_implies];refine ⟨inR_small (by omega) (by omega), by omega, by omega, fun _ => ?_⟩
 clear hse htk
 refine loop_rule (fun k τ => ∃ i : Nat, k = B.length - i /\ i <= B.length /\ (∀ p ∈ B.take i, (enR p).2 = true) /\
  τ = ⟨(aN::aN::(.loc 0 0)::aN::aN::aN::(.s (.slice (strs (B ++ [z]))))::(.loc 1 0)::aN::aN::aN::aN::aN::aN::aN::aN::aN::aN::aN::aN::aN::aN::aN::aN::aN::aN::aN::aN::aN::aN::aN::aN::aN::aN::(.s (.slice (strs B)))::(aI B.length)::(aI i)::aZ56), [.obj [.full []], .obj [.sl 2 0 (B.take i).length 4 false], .row (flE ((B.take i).map fun p => (enR p).1))]⟩) B.length rfl ?_ ?_
 ·simp only [c42l16m, go_sem]
  exact ⟨0, rfl, Nat.zero_le _, fun p h => by simp at h, rfl⟩
 rintro I k τ ⟨i, rfl, hi, hok, rfl⟩ hI;have hlt' : (B.take i).length = i := by rw [List.length_take]; omega
 simp only [c42l16, c42r9, go_sem, ↓reduceIte, Nat.reduceAdd, true_implies];refine ⟨fun hlt => ?_, fun hge => ?_⟩
 ·have hx : B[i]? = some B[i] := List.getElem?_eq_getElem hlt
  have hpx := hsz B[i] (List.mem_append_left _ (List.getElem_mem hlt));generalize B[i] = p at hx hpx;have ht := take_snoc hx;have hget : (strs B)[i]? = some (.str (bL p)) := by rw [strs_get, hx]; rfl
  have hld := ldV_eq p;simp only [c42r10, hget, c42r11, go_sem, Nat.reduceAdd, true_implies];refine callK_of (by simp only [go_sem]) (k81 (s := bL p) (by rw [bL_size]; omega)) (.inl rfl) ?_
  cases hp : (enR p).2 with
  | false =>
   rw [hp] at hld
   have e : R = ([], 8) := by
    rw [<- hR]; unfold bodyR;rw [if_neg];intro h;have := List.all_eq_true.1 h p (List.mem_of_getElem? hx);rw [hp] at this; cases this
   subst e;rw [hld.1];simp only [ent, spl4, c42r12, c42r13, spl_one, ssn, ents, go_sem, Nat.reduceAdd, true_implies]
  | true =>
   rw [hp] at hld;rw [hld.1, hld.2 rfl];simp only [ent, spl4, c42r12, c42r14, go_sem, Nat.reduceAdd, Nat.reduceLeDiff, Nat.reduceMul, true_implies];refine ⟨by decide, by decide, rfl, four_cells, four_cells, by rw [flE_len, List.length_map]; omega, by omega, by omega, ?_⟩
   have hes : (B.take (i + 1)).map (fun p => (enR p).1) = (B.take i).map (fun p => (enR p).1) ++ [(enR p).1] := by rw [ht, List.map_append]; rfl
   have hsn : flE ((B.take i).map fun p => (enR p).1) ++ flatE [SV.agg [.int .i64 (enR p).1.m, .int .i64 (enR p).1.n, .int .i64 (enR p).1.k, .int .i64 (enR p).1.a]] = flE ((B.take (i + 1)).map fun p => (enR p).1) := by
    rw [hes]; exact flE_snoc
   rw [hsn];simp only [spl_one, Nat.reduceBEq, Bool.false_eq_true, beq_self_eq_true, c42r15, c42l16m, go_sem, ↓reduceIte, Nat.reduceAdd, true_implies];refine ⟨inR_small (by omega) (by omega), hI (B.length - (i + 1)) _ (by omega) ⟨i + 1, rfl, by omega, fun q hq => ?_, ?_⟩⟩
   ·rw [ht] at hq
    rcases List.mem_append.1 hq with hq | hq
    ·exact hok q hq
    ·simp only [List.mem_singleton] at hq
     subst hq; exact hp
   ·rw [ht, List.length_append]; rfl
 ·have hi2 : i = B.length := by omega
  subst hi2;rw [List.take_length] at hok ⊢;clear hI hi;have hzl := hsz z (by simp)
  have hall : B.all (fun p => (enR p).2) = true := List.all_eq_true.2 hok
  unfold bodyR at hR;rw [if_pos hall] at hR;generalize hL : B.map (fun p => (enR p).1) = L at *
  have hLl : L.length = B.length := by rw [<- hL, List.length_map]
  have ez : ((B.length + 1 : Nat) : Int) - 1 = B.length := by omega
  have hget : (strs (B ++ [z]))[B.length]? = some (.str (bL z)) := by rw [strs_get]; simp
  have hend := end_eq (z := z);have bend : (ByteArray.mk #[101, 110, 100, 32]) = bL [101, 110, 100, 32] := rfl;simp only [c42r17, strs_len, hPl, ez, Int.toNat_natCast, hget, bend, go_sem];refine ⟨inR_small (by omega) (by omega), ?_⟩
  refine callK_of (by simp only [go_sem]) (k82 (s := bL z) (p := bL [101, 110, 100, 32])) (.inl rfl) ?_
  have hms : (cutPre (bL z) (bL [101, 110, 100, 32])).size <= 500 := by
   unfold cutPre
   split
   ·rw [bl_ext, bL_size, List.length_take, List.length_drop]; omega
   ·rw [bL_size]; exact hzl
  generalize cutPre (bL z) (bL [101, 110, 100, 32]) = m at hend hms;generalize hasPre (bL z) (bL [101, 110, 100, 32]) = pb at hend;have h83 := k83 (s := m) (by omega)
  generalize nuB m = nb at hend h83;generalize nuV m = nv at hend h83;have hse := slice_ents (l := L) (n := B.length) hLl.symm;simp only [c42r18, go_sem, Nat.reduceAdd];intro _;refine callK_of (by simp only [go_sem]) h83 (.inl rfl) ?_
  simp only [c42r19, go_sem, Nat.reduceAdd, true_implies];refine callK_of (by simp only [hse, ssn, go_sem]) (k25 (L := L)) (.inl rfl) ?_
  rcases hend with ⟨h1, h2⟩ | ⟨n, h1, rfl, rfl, rfl⟩
  ·rw [h1] at hR
   simp only at hR;subst hR
   cases pb <;> cases nb <;> simp at h2 <;> (simp only [c42r20, c42r21, spl_one, ssn, ents, go_sem, Nat.reduceAdd, true_implies])
  ·rw [h1] at hR
   simp only at hR;simp only [c42r20, c42r22, go_sem, Nat.reduceAdd, true_implies];intro _;refine ⟨fun hn => ?_, fun hn => ?_⟩
   case refine_2 =>
    rw [if_neg hn] at hR;subst hR;simp only [c42r23, spl_one, ssn, ents, go_sem, true_implies]
   rw [if_pos hn] at hR
   by_cases hA : ckS L = 0
   case neg =>
    rw [if_neg hA] at hR;subst hR;simp only [hA, c42r24, c42r25, spl_one, ssn, ents, go_sem, Nat.reduceAdd, true_implies]
   rw [if_pos hA] at hR;subst hR;simp only [hA, c42r24, c42r26, hse, spl_one, ssn, go_sem, Nat.reduceAdd, true_implies]
end Go.Proofs.YtdlfkbpddfeenaaGreatDoor.Sk
namespace Go.Proofs.YtdlfkbpddfeenaaGreatDoor.Sk
open Go Go.E Go.RowKit
set_option maxRecDepth 100000
def rc95 (b : Nat) : Array Value := #[.int .i64 1, .func (.func 120) #[] #[], .func (.func 124) #[] #[],
 .int .i64 2, .func (.func 123) #[] #[.pointer (some ⟨b, 0, none⟩)], .func (.func 125) #[] #[],
 .int .i64 3, .func (.func 121) #[] #[], .func (.func 126) #[] #[], .int .i64 4, .func (.func 122) #[] #[], .func (.func 127) #[] #[]]
theorem w95 (w : World) : Calls Tryz.prog 95 #[] w fun e w' => e = .returned (.slice (some ⟨w.heap.size + 1, 0, none⟩) 4 4) /\
  w' = (w.alloc (.cells #[.func (.func 121) #[] #[]] 128)).alloc (.cells (rc95 w.heap.size) 131) := by
 go_enter Tryz.func95, Tryz.ntmps95
 go_wp2
 go_ret
 exact ⟨rfl, rfl⟩
theorem crel_fn0 {M : Mem} {f : FuncId} : CRel M (.fn f [] []) [.func (.func f) #[] #[]] := by
 simp only [CRel]; exact ⟨[], [], rfl, by simp [ones, CRelC], by simp [ones, CRelC]⟩
theorem k95 : E.Fn Tryz.prog 95 [] [.slice rlsL] := by
 intro M w vs hM hv;have hvs : vs = [] := by simpa [VRelL] using hv
 subst hvs;refine (w95 w).mono fun e w' ⟨he, hw⟩ => ?_
 obtain ⟨a1, a2, a3, a4⟩ := Mem.lay_spec hM #[.func (.func 121) #[] #[]] 128;obtain ⟨b1, b2, b3, b4⟩ := Mem.lay_spec a3 (rc95 w.heap.size) 131;generalize hM1 : M.lay w.heap.size (#[Value.func (.func 121) #[] #[]]).toList = M1 at a1 a2 a3 a4 b1 b2 b3 b4;have hs : (w.alloc (.cells #[.func (.func 121) #[] #[]] 128)).heap.size = w.heap.size + 1 := by simp
 rw [hs] at b1 b2 b3 b4;generalize hM2 : M1.lay (w.heap.size + 1) (rc95 w.heap.size).toList = M2 at b1 b2 b3 b4;refine ⟨[.slice (some ⟨w.heap.size + 1, 0, none⟩) 4 4], M2, he, Mem.le_trans a1 b1, by rw [hw]; exact b3, ?_, by rw [hw]; exact (touch_alloc w _).trans (touch_alloc _ _), ?_⟩
 ·refine ⟨_, _, rfl, vrel_of_one ?_ rfl, rfl⟩
  simp only [CRel]
  refine ⟨_, _, _, rfl, rfl, Nat.le_refl _, by decide, .inr ⟨w.heap.size + 1, 0, 3, [[.int .i64 1, .func (.func 120) #[] #[], .func (.func 124) #[] #[]],
   [.int .i64 2, .func (.func 123) #[] #[.pointer (some ⟨w.heap.size, 0, none⟩)], .func (.func 125) #[] #[]],
   [.int .i64 3, .func (.func 121) #[] #[], .func (.func 126) #[] #[]], [.int .i64 4, .func (.func 122) #[] #[], .func (.func 127) #[] #[]]], rfl, ?_, by simp, b4⟩⟩
  have hr : ∀ (k : Int) (r d : SV) (x y : Value), CRel M2 r [x] -> CRel M2 d [y] -> CRel M2 (rule k r d) [.int .i64 k, x, y] := fun k r d x y h1 h2 => by
   simp only [rule, CRel, CRelC, ones_cons, ones_nil];exact ⟨_, _, rfl, rfl, _, _, rfl, h1, _, _, rfl, h2, rfl⟩
  refine crelC_cons (hr _ _ _ _ _ crel_fn0 crel_fn0) (crelC_cons (hr _ _ _ _ _ ?_ crel_fn0) (crelC_cons (hr _ _ _ _ _ crel_fn0 crel_fn0) (crelC_cons (hr _ _ _ _ _ crel_fn0 crel_fn0) crelC_nil)));simp only [CRel];refine ⟨[], [.pointer (some ⟨w.heap.size, 0, none⟩)], rfl, by simp [ones, CRelC], ?_⟩
  refine crelC_cons ?_ crelC_nil;simp only [CRel];exact ⟨w.heap.size, 0, [.func (.func 121) #[] #[]], rfl, crelC_cons crel_fn0 crelC_nil, a4.mono b1⟩
 ·refine ⟨fun b o v h => ?_, fun b es h => ?_⟩
  ·rcases b2.1 b o v h with h | h | h
   ·exact a2.1 b o v h
   ·exact .inr (.inl (by rw [hs] at h; omega))
   ·exact .inr (.inr h)
  ·rcases b2.2 b es h with h | h | h
   ·exact a2.2 b es h
   ·exact .inr (.inl (by rw [hs] at h; omega))
   ·exact .inr (.inr h)
end Go.Proofs.YtdlfkbpddfeenaaGreatDoor.Sk
namespace Go.Proofs.YtdlfkbpddfeenaaGreatDoor.Sk
open Go Go.E Go.E.Sm
set_option maxRecDepth 10000
def bks (mk : Int) (b : Ent) (a : Int) : Bool := decide (b.k = 5 /\ b.n <= mk /\ b.a = a)
def stl (mk : Int) (A : List Ent) : List Ent := A.filter fun e => decide (e.n <= mk)
def lfs (mk : Int) (ys A : List Ent) : List Ent := A.filter fun e => !(ys.any fun b => bks mk b e.n)
theorem lft_any {L : List Ent} {m n : Int} (hok : OkS L) : lft L m n = (atE L m).any fun b => bks (mark L m) b n := by
 rw [Bool.eq_iff_iff];unfold lft;rw [List.any_eq_true, List.any_eq_true];constructor
 ·rintro ⟨j, hj, h⟩
  rw [List.mem_range] at hj
  cases hf : fnd L m ((j + 1 : Nat) : Int) with
  | none => rw [hf] at h; cases h
  | some e =>
   rw [hf] at h;have h := of_decide_eq_true h;obtain ⟨h1, h2, h3⟩ := fnd_some hf;exact ⟨e, List.mem_filter.2 ⟨h1, by simpa using h2⟩, by unfold bks; exact decide_eq_true ⟨h.1, by omega, h.2⟩⟩
 ·rintro ⟨b, hb, h⟩
  obtain ⟨hb1, hb2⟩ := List.mem_filter.1 hb;have hb2 : b.m = m := by simpa using hb2
  unfold bks at h;have h := of_decide_eq_true h;have hn := (hok.ent b hb1).n1;refine ⟨b.n.toNat - 1, List.mem_range.2 (by omega), ?_⟩
  have hf := fnd_mem hok.ord hb1;rw [hb2] at hf;rw [show ((b.n.toNat - 1 + 1 : Nat) : Int) = b.n from by omega, hf]
  exact decide_eq_true ⟨h.1, h.2.2⟩
theorem fnd_left {L : List Ent} {m : Int} (hok : OkS L) {j : Nat} (hj : j < mark L m) : ∃ e ∈ L, fnd L m ((j + 1 : Nat) : Int) = some e /\
  fnd (lfs (mark L m) (atE L m) (stl (mark L m) (atE L m))) m ((j + 1 : Nat) : Int) = if lft L m ((j + 1 : Nat) : Int) then none else some e := by
 have hh := (mark_spec (m := m) fun e he => (hok.ent e he).n30).1 (j + 1) (by omega) (by omega)
 cases hf : fnd L m ((j + 1 : Nat) : Int) with
 | none => rw [has_no.2 hf] at hh; cases hh
 | some e =>
  obtain ⟨h1, h2, h3⟩ := fnd_some hf;refine ⟨e, h1, rfl, ?_⟩;have hl := lft_any (m := m) (n := ((j + 1 : Nat) : Int)) hok
  cases hlf : lft L m ((j + 1 : Nat) : Int) with
  | true =>
   rw [if_pos rfl, fnd_none];rintro y hy ⟨hy1, hy2⟩;have := (List.mem_filter.1 hy).2;rw [hy2, <- hl, hlf] at this
   cases this
  | false =>
   rw [if_neg (by simp)]
   have hm : e ∈ lfs (mark L m) (atE L m) (stl (mark L m) (atE L m)) := by
    refine List.mem_filter.2 ⟨List.mem_filter.2 ⟨List.mem_filter.2 ⟨h1, by simpa using h2⟩, by simp; omega⟩, ?_⟩
    rw [h3, <- hl, hlf]; rfl
   have hp : (lfs (mark L m) (atE L m) (stl (mark L m) (atE L m))).Pairwise Bef := ((hok.ord.filter _).filter _).filter _;have := fnd_mem hp hm
   rwa [h2, h3] at this
theorem mCut_key {m a : Int} : ∀ {A : List Ent}, (∀ e ∈ A, e.m = m) -> A.Pairwise (fun x y => x.n < y.n) ->
  mCut (A.map keyE) (A.map ent) (mFind (key m a) (A.map keyE)) = .map ((A.filter fun e => decide (e.n ≠ a)).map keyE) ((A.filter fun e => decide (e.n ≠ a)).map ent)
 | [], _, _ => rfl
 | x :: A, hm, hp => by
  obtain ⟨h1, h2⟩ := List.pairwise_cons.1 hp;have hx := hm x (by simp)
  simp only [List.map_cons, mFind]
  by_cases h : x.n = a
  ·rw [if_pos (show key m a = keyE x from key_eq.2 ⟨hx.symm, h.symm⟩), List.filter_cons_of_neg (by simpa using h), List.filter_eq_self.2 fun y hy => by have := h1 y hy; simp; omega]
   rfl
  ·have ih := mCut_key (a := a) (fun e he => hm e (List.mem_cons_of_mem _ he)) h2
   rw [if_neg (show ¬ key m a = keyE x from fun hk => h (key_eq.1 hk).2.symm), List.filter_cons_of_pos (by simpa using h)]
   cases hf : mFind (key m a) (A.map keyE) with
   | none =>
    rw [hf] at ih;simp only [mCut, ABlock.map.injEq] at ih;simp only [Option.map_none, mCut, List.map_cons];rw [<- ih.1, <- ih.2]
   | some i =>
    rw [hf] at ih;simp only [mCut, ABlock.map.injEq] at ih;simp only [Option.map_some, mCut, List.map_cons, List.eraseIdx_cons_succ];rw [<- ih.1, <- ih.2]
theorem lfs_snoc {mk : Int} {ys A : List Ent} {z : Ent} : lfs mk (ys ++ [z]) A = if z.k = 5 /\ z.n <= mk then (lfs mk ys A).filter (fun e => decide (e.n ≠ z.a)) else lfs mk ys A := by
 unfold lfs
 split
 ·rename_i h
  rw [List.filter_filter]
  congr 1
  funext e
  rw [List.any_append, List.any_cons, List.any_nil, Bool.or_false];unfold bks
  cases ys.any fun b => decide (b.k = 5 /\ b.n <= mk /\ b.a = e.n) <;> simp [h.1, h.2]
  exact ⟨fun h2 => h2.symm, fun h2 => h2.symm⟩
 ·rename_i h
  congr 1
  funext e
  rw [List.any_append, List.any_cons, List.any_nil, Bool.or_false];have : bks mk z e.n = false := by unfold bks; exact decide_eq_false fun h2 => h ⟨h2.1, h2.2.1⟩
  rw [this, Bool.or_false]
theorem stl_snoc {mk : Int} {A : List Ent} {z : Ent} : stl mk (A ++ [z]) = if z.n <= mk then stl mk A ++ [z] else stl mk A := by
 unfold stl; rw [List.filter_append]
 by_cases h : z.n <= mk <;> simp [h]
theorem mks_at {L : List Ent} (hok : OkS L) {m : Int} (h0 : 0 <= m) (h4 : m <= 4) : (mks L)[m.toNat]? = some (.int .i64 (mark L m)) := by
 rw [mks_mark hok];have : m = 0 \/ m = 1 \/ m = 2 \/ m = 3 \/ m = 4 := by omega
 rcases this with rfl | rfl | rfl | rfl | rfl <;> rfl
@[go_sem] theorem dsk_cells {L : List Ent} : (dsk L).cells = [dsk L] := rfl
@[go_sem] theorem agg_dsk {L : List Ent} : (dsk L).isAgg = false := rfl
theorem promo_loc {d sz off b o : Nat} {σ : AState} {cs : List LV} (h : fget σ.fr d = .loc b o) (h1 : σ.hp[b]? = some (.obj cs)) (h2 : cs[o + off]? = some (.full [])) :
  promote [(d, some off, sz)] σ = { fr := σ.fr, hp := σ.hp.set b (.obj (cs.set (o + off) (.sl σ.hp.length 0 0 (sz + 1) false))) ++ [.row []] } := by
 simp only [promote, promote1, h, h1, h2]
theorem rlOf0 : rlOf e0.k = rule 0 .nilf .nilf := rfl
theorem rlIs0 : rlIs e0.k = false := rfl
theorem k72 {L : List Ent} {m : Int} (hok : OkS L) (h0 : 0 <= m) (h4 : m <= 4) : E.Fn Tryz.prog 72 [dsk L, .int .i64 m] [stV (stL L m)] := by
 refine fn_of_brow okt72 ?_;generalize hr : stL L m = r;have hsrt := atE_srt (m := m) hok.ord;have hbd : ∀ e ∈ atE L m, OkE e /\ e.m = m := fun e he => ⟨hok.ent e (List.mem_filter.1 he).1, by simpa using (List.mem_filter.1 he).2⟩
 have hmk := (mark_spec (m := m) fun e he => (hok.ent e he).n30).2.2
 have hat := mks_at hok h0 h4;have hml : (mks L).length = 5 := rfl;have hq : (List.drop (m.toNat * 1) (mks L))[0]? = some (.int .i64 (mark L m)) := by rw [Nat.mul_one, List.getElem?_drop, Nat.add_zero]; exact hat
 generalize hmkv : mark L m = mk at hmk hat hq;simp only [BRow.start, t72, c72r0, c72r1, c72r2, c72r3, c72r4, go_sem, Nat.reduceAdd, Nat.reduceSub, true_implies];refine ⟨by kernel_rfl, callK_of (by simp only [go_sem]) (k92 (L := L) (m := m)) (.inr (.inl (by simp only [go_sem]))) ?_⟩
 simp only [spl_one, go_sem, true_implies]
 refine range_rule (fun vs H => ∃ (ys zs : List Ent), atE L m = ys ++ zs /\ vs = zs.map ent /\
   H = [.obj [aI 0, aI 0, aI 0, aI 0, aI 0, .full []], .obj [aI 0, aI 0, aI 0, aI 0, aI 0, .full []],
    .map ((stl mk ys).map keyE) ((stl mk ys).map ent), .obj [.mp 2]]) rfl (by kernel_rfl) rfl (y119 (L := L) (m := m)) (by decide) ⟨[], atE L m, rfl, rfl, rfl⟩ rfl ?_ ?_
 rotate_left
 ·rintro v vs H I ⟨ys, zs, h1, h2, rfl⟩ hI
  cases zs with
  | nil => simp at h2
  | cons z zs =>
   simp only [List.map_cons, List.cons.injEq] at h2;obtain ⟨rfl, rfl⟩ := h2;have hs := stl_snoc (mk := mk) (A := ys) (z := z);have hz := hbd z (by rw [h1]; simp)
   simp only [c72b8a, c72b8, c72r5, c72r6, ent, spl4, dsk, h0, hq, go_sem, ↓reduceIte, reduceCtorEq, Nat.reduceAdd, Nat.reduceSub, Nat.reduceLeDiff, true_implies];refine ⟨by omega, by rw [hml]; omega, ?_⟩
   refine ⟨fun hle => ?_, fun hgt => ?_⟩
   ·have hfn : fnd (stl mk ys) z.m z.n = none := fnd_none.2 fun y hy hyz => by
     have hp := hsrt;rw [h1] at hp;have := (List.pairwise_append.1 hp).2.2 y (List.mem_filter.1 hy).1 z (by simp)
     omega
    have hm := mFind_new hfn;unfold key at hm;simp only [c72r7, go_sem, Nat.reduceAdd];refine callK_of (by simp only [ent, go_sem]) (k62 (e := z)) (.inl rfl) ?_
    simp only [go_sem, ↓reduceIte, reduceCtorEq, Nat.reduceAdd, Nat.reduceLeDiff, true_implies];refine ⟨key_ok, ?_⟩;rw [hm, mPut_new];rw [if_pos hle] at hs;refine hI _ ⟨ys ++ [z], zs, by rw [h1, List.append_assoc]; rfl, rfl, ?_⟩
    rw [hs, List.map_append, List.map_append];rfl
   ·rw [if_neg hgt] at hs
    refine hI _ ⟨ys ++ [z], zs, by rw [h1, List.append_assoc]; rfl, rfl, ?_⟩
    rw [hs]
 rintro H ⟨ys, zs, h1, h2, rfl⟩;have hz : zs = [] := by simpa using h2.symm
 subst hz;rw [List.append_nil] at h1;subst h1;simp only [c72r9, go_sem, ↓reduceIte, reduceCtorEq, Nat.reduceAdd, Nat.reduceSub, Nat.reduceLeDiff];refine ⟨by kernel_rfl, callK_of (by simp only [go_sem]) (k92 (L := L) (m := m)) (.inr (.inl (by simp only [go_sem]))) ?_⟩
 simp only [go_sem, true_implies]
 refine range_rule (fun vs H => ∃ (ys zs : List Ent), atE L m = ys ++ zs /\ vs = zs.map ent /\
   H = [.obj [aI 0, aI 0, aI 0, aI 0, aI 0, .full []], .obj [aI 0, aI 0, aI 0, aI 0, aI 0, .full []],
    .map ((lfs mk ys (stl mk (atE L m))).map keyE) ((lfs mk ys (stl mk (atE L m))).map ent), .obj [.mp 2]]) rfl (by kernel_rfl) rfl (y119 (L := L) (m := m)) (Nat.zero_le _) ⟨[], atE L m, rfl, rfl, by rw [show lfs mk [] (stl mk (atE L m)) = stl mk (atE L m) from List.filter_eq_self.2 fun _ _ => rfl]⟩ rfl ?_ ?_
 rotate_left
 ·rintro v vs H I ⟨ys, zs, h1, h2, rfl⟩ hI
  cases zs with
  | nil => simp at h2
  | cons z zs =>
   simp only [List.map_cons, List.cons.injEq] at h2;obtain ⟨rfl, rfl⟩ := h2;have hs := lfs_snoc (mk := mk) (ys := ys) (A := stl mk (atE L m)) (z := z);have hz := hbd z (by rw [h1]; simp)
   have hsub : ∀ e ∈ lfs mk ys (stl mk (atE L m)), e.m = m := fun e he => (hbd e (List.mem_filter.1 (List.mem_filter.1 he).1).1).2
   have hps : (lfs mk ys (stl mk (atE L m))).Pairwise (fun x y => x.n < y.n) := (hsrt.filter _).filter _
   have hcut := mCut_key (m := m) (a := z.a) hsub hps;unfold key at hcut;simp only [c72b13a, c72b13, c72r10, c72r11, ent, spl4, go_sem, ↓reduceIte, reduceCtorEq, Nat.reduceAdd, Nat.reduceSub, Nat.reduceLeDiff, true_implies];refine ⟨fun h5 => ?_, fun h5 => ?_⟩
   ·simp only [dsk, h0, hq, go_sem, ↓reduceIte, reduceCtorEq, Nat.reduceAdd, Nat.reduceLeDiff, true_implies]
    refine ⟨by omega, by rw [hml]; omega, fun hle => ?_, fun hgt => ?_⟩
    ·simp only [c72r12, go_sem, ↓reduceIte, reduceCtorEq, Nat.reduceAdd, Nat.reduceLeDiff, true_implies]
     refine ⟨key_ok, ?_⟩;rw [hcut];rw [if_pos ⟨h5, hle⟩] at hs;refine hI _ ⟨ys ++ [z], zs, by rw [h1, List.append_assoc]; rfl, rfl, ?_⟩
     rw [hs];rfl
    ·rw [if_neg fun h => hgt h.2] at hs
     refine hI _ ⟨ys ++ [z], zs, by rw [h1, List.append_assoc]; rfl, rfl, ?_⟩
     rw [hs]
   ·rw [if_neg fun h => h5 h.1] at hs
    refine hI _ ⟨ys ++ [z], zs, by rw [h1, List.append_assoc]; rfl, rfl, ?_⟩
    rw [hs]
 rintro H ⟨ys, zs, h1, h2, rfl⟩;have hz : zs = [] := by simpa using h2.symm
 subst hz;rw [List.append_nil] at h1;generalize hA : atE L m = A at *;subst h1;generalize hK : lfs mk A (stl mk A) = K;simp only [c72r14, dsk, h0, hq, go_sem, ↓reduceIte, reduceCtorEq, Nat.reduceAdd, Nat.reduceSub, Nat.reduceLeDiff, true_implies];refine ⟨by omega, by rw [hml]; omega, ?_⟩
 refine loop_rule (fun k τ => ∃ i : Nat, k = mk - i /\ i <= mk /\ τ = ⟨(aN::aN::aN::(.s (.ptr [.int .i64 m]))::(.loc 0 0)::(.loc 1 0)::aN::(.loc 3 0)::aN::aN::aN::aN::aN::aN::aN::aN::aN::aN::aN::aN::aN::aN::aN::aN::aN::aN::aN::aN::aN::aN::aN::aN::aN::aN::aN::aN::aN::aN::aN::aN::aN::aN::aN::aN::aN::aN::aN::aN::aN::aN::aN::aN::aN::aN::aN::aN::aN::aN::aN::aN::aN::aN::aN::(aI mk)::(aI i)::aN::aN::aN::aN::aN::aZ40),
   [.obj [aI 0, aI 0, aI 0, aI 0, aI 0, .full []], stO (stT L m i) (.sl 4 0 (stT L m i).f.length 1 false), .map (K.map keyE) (K.map ent), .obj [.mp 2], .row ((stT L m i).f.map (.int .i64))]⟩) mk (promo_loc rfl rfl rfl) ?_ ?_
 ·simp only [c72l24m, go_sem, ↓reduceIte, reduceCtorEq, Nat.reduceAdd, Nat.reduceLeDiff]
  exact ⟨0, rfl, Nat.zero_le _, rfl⟩
 rintro I k τ ⟨i, rfl, hi, rfl⟩ hI;have hbk := stT_bd (m := m) hok (j := i);have hb := hbk.bd (by omega)
 have hf1 := hbk.f1;have hT : stT L m (i + 1) = if lft L m ((i + 1 : Nat) : Int) then stT L m i else match fnd L m ((i + 1 : Nat) : Int) with | some e => nxS (stT L m i) e | none => stT L m i := rfl
 have hL : stT L m mk = r := by rw [<- hr, <- hmkv]; rfl
 generalize hS : stT L m i = s at hb hbk hf1 hT;simp only [c72l24, c72r15, stO, go_sem, ↓reduceIte, Nat.reduceAdd, true_implies];refine ⟨fun hlt => ?_, fun hge => ?_⟩
 rotate_left
 ·have hie : i = mk := by omega
  subst hie;rw [hS] at hL;subst hL;simp only [c72r25, stV, spl6, slice_all rfl, go_sem, Nat.reduceAdd, true_implies]
 obtain ⟨e, heL, hfe, hfK⟩ := fnd_left (m := m) hok (j := i) (by rw [hmkv]; exact hlt)
 rw [hmkv, hA, hK] at hfK;rw [hfe] at hT;have hmf := mFind_key (m := m) (n := ((i + 1 : Nat) : Int)) (L := K);unfold key at hmf;have e1 : ((i : Nat) : Int) + 1 = ((i + 1 : Nat) : Int) := rfl;simp only [c72r16, c72r17, e1, go_sem, ↓reduceIte, Nat.reduceAdd, Nat.reduceLeDiff, true_implies];refine ⟨inR_small (by omega) (by omega), key_ok, ?_⟩
 cases hm : mFind (SV.agg [.int .i64 m, .int .i64 ((i + 1 : Nat) : Int)]) (K.map keyE) with
 | none =>
  rw [hm] at hmf
  have hl : lft L m ((i + 1 : Nat) : Int) = true := by
   cases h : lft L m ((i + 1 : Nat) : Int) with
   | true => rfl
   | false => rw [h, hmf] at hfK; simp at hfK
  rw [hl, if_pos rfl] at hT;simp only [mgetI_no, spl4, go_sem, Nat.reduceAdd, Nat.reduceLeDiff, true_implies];simp only [c72r18, go_sem];refine callK_of (by simp only [go_sem]) k95 (.inr (.inl (by simp only [go_sem]))) ?_
  simp only [go_sem];refine callK_of (by simp only [go_sem]; rfl) (k94 (e := e0)) (.inr (.inl (by simp only [go_sem]; rfl))) ?_
  rw [rlOf0, rlIs0];simp only [rule, spl_3, c72r19, c72r23, c72l24m, go_sem, ↓reduceIte, reduceCtorEq, Nat.reduceAdd, Nat.reduceLeDiff, true_implies];exact ⟨inR_small (by omega) (by omega), hI (mk - (i + 1)) _ (by omega) ⟨i + 1, rfl, by omega, by rw [hT]; rfl⟩⟩
 | some j =>
  rw [hm] at hmf;obtain ⟨e', hj, hfe'⟩ := hmf
  have hl : lft L m ((i + 1 : Nat) : Int) = false := by
   cases h : lft L m ((i + 1 : Nat) : Int) with
   | false => rfl
   | true => rw [h, hfe'] at hfK; simp at hfK
  have hee : e' = e := by rw [hl, hfe'] at hfK; simpa using hfK
  subst hee;rw [hl, if_neg (by simp)] at hT
  have hT : stT L m (i + 1) = nxS s e' := hT;have he := hok.ent e' heL;simp only [mgetI_hit (ent_at hj), ent_cells, spl4, go_sem, Nat.reduceAdd, Nat.reduceLeDiff, true_implies];simp only [c72r18, go_sem];refine callK_of (by simp only [go_sem]) k95 (.inr (.inl (by simp only [go_sem]))) ?_
  simp only [go_sem];refine callK_of (by simp only [go_sem]) (k94 (e := e')) (.inr (.inl (by simp only [go_sem]))) ?_
  have hkk : e'.k = 1 \/ e'.k = 2 \/ e'.k = 3 \/ e'.k = 4 \/ e'.k = 5 := by have := he.k1; have := he.k5; omega
  rcases hkk with h | h | h | h | h
  ·have q1 : rlOf e'.k = rl1 := by unfold rlOf; rw [if_pos h]
   have q2 : rlIs e'.k = true := by unfold rlIs; rw [h]; rfl
   rw [q1, q2];simp only [rl1, rule, spl_3, c72r19, c72r20, go_sem, Nat.reduceAdd, Nat.reduceLeDiff, true_implies];refine ⟨by kernel_rfl, callK_of (by simp only [slice_all rfl, stV, go_sem]) (k120 (s := s) (n := e'.a)) (.inl rfl) ?_⟩
   simp only [go_sem, Nat.reduceAdd, true_implies]
   ·have hT2 : stT L m (i + 1) = { s with c := s.c + e'.a, h := s.h + e'.a } := by
     rw [hT]; unfold nxS;rw [if_neg (by unfold rfs; simp; omega), if_pos h]
    simp only [c72r21, callvIK_s, go_sem, Nat.reduceAdd, Nat.reduceLeDiff, true_implies];refine ⟨by kernel_rfl, _, _, k124 (b := 1) (s := s) (v := .sl 4 0 s.f.length 1 false) rfl hb he.a0 he.a100 rfl rfl, ?_⟩
    simp only [stO, c72r23, c72l24m, go_sem, ↓reduceIte, reduceCtorEq, Nat.reduceAdd, Nat.reduceLeDiff, true_implies];refine ⟨inR_small (by omega) (by omega), hI (mk - (i + 1)) _ (by omega) ⟨i + 1, rfl, by omega, ?_⟩⟩
    rw [hT2];rfl
  ·have q1 : rlOf e'.k = rl2 := by unfold rlOf; rw [if_neg (by omega), if_pos h]
   have q2 : rlIs e'.k = true := by unfold rlIs; rw [h]; rfl
   rw [q1, q2];simp only [rl2, rule, spl_3, c72r19, c72r20, go_sem, Nat.reduceAdd, Nat.reduceLeDiff, true_implies];refine ⟨by kernel_rfl, callK_of (by simp only [slice_all rfl, stV, go_sem]) (k123 (s := s) (n := e'.a)) (.inl rfl) ?_⟩
   by_cases hc : 0 < s.c /\ e'.a <= s.h
   ·rw [show (decide (0 < s.c) && decide (e'.a <= s.h)) = true from by simp [hc]]
    simp only [go_sem, Nat.reduceAdd, true_implies]
    have hT2 : stT L m (i + 1) = { s with c := s.c - 1, h := s.h - e'.a, p := s.p + e'.a } := by
     rw [hT]; unfold nxS;rw [if_neg (by unfold rfs; simp; omega), if_neg (by omega), if_pos h]
    simp only [c72r21, callvIK_s, go_sem, Nat.reduceAdd, Nat.reduceLeDiff, true_implies];refine ⟨by kernel_rfl, _, _, k125 (b := 1) (s := s) (v := .sl 4 0 s.f.length 1 false) rfl hb he.a0 he.a100 rfl rfl, ?_⟩
    simp only [stO, c72r23, c72l24m, go_sem, ↓reduceIte, reduceCtorEq, Nat.reduceAdd, Nat.reduceLeDiff, true_implies];refine ⟨inR_small (by omega) (by omega), hI (mk - (i + 1)) _ (by omega) ⟨i + 1, rfl, by omega, ?_⟩⟩
    rw [hT2];rfl
   ·rw [show (decide (0 < s.c) && decide (e'.a <= s.h)) = false from by simp; omega]
    have hc0 := hb.c0;simp only [go_sem, Nat.reduceAdd, true_implies];have hT2 : stT L m (i + 1) = { s with f := s.f ++ [e'.n] } := by rw [hT]; unfold nxS; rw [if_pos (by unfold rfs; exact decide_eq_true (by omega))]
    simp only [c72r22, List.length_map, go_sem, Nat.reduceAdd, Nat.reduceLeDiff, Nat.reduceMul];refine ⟨by decide, by decide, rfl, one_cells, one_cells, by omega, by omega, by omega, ?_⟩
    simp only [spl6f, c72r23, c72l24m, Nat.reduceBEq, Bool.false_eq_true, beq_self_eq_true, go_sem, ↓reduceIte, Nat.reduceAdd, Nat.reduceLeDiff, true_implies];refine ⟨inR_small (by omega) (by omega), hI (mk - (i + 1)) _ (by omega) ⟨i + 1, rfl, by omega, ?_⟩⟩
    rw [hT2, stO, List.length_append, List.map_append];rfl
  ·have q1 : rlOf e'.k = rl3 := by unfold rlOf; rw [if_neg (by omega), if_neg (by omega), if_pos h]
   have q2 : rlIs e'.k = true := by unfold rlIs; rw [h]; rfl
   rw [q1, q2];simp only [rl3, rule, spl_3, c72r19, c72r20, go_sem, Nat.reduceAdd, Nat.reduceLeDiff, true_implies];refine ⟨by kernel_rfl, callK_of (by simp only [slice_all rfl, stV, go_sem]) (k121 (s := s) (n := e'.a)) (.inl rfl) ?_⟩
   by_cases hc : e'.a <= s.h
   ·rw [decide_eq_true hc]
    simp only [go_sem, Nat.reduceAdd, true_implies]
    have hT2 : stT L m (i + 1) = { s with h := s.h - e'.a, b := s.b + e'.a } := by
     rw [hT]; unfold nxS;rw [if_neg (by unfold rfs; simp; omega), if_neg (by omega), if_neg (by omega), if_pos h]
    simp only [c72r21, callvIK_s, go_sem, Nat.reduceAdd, Nat.reduceLeDiff, true_implies];refine ⟨by kernel_rfl, _, _, k126 (b := 1) (s := s) (v := .sl 4 0 s.f.length 1 false) rfl hb he.a0 he.a100 rfl rfl, ?_⟩
    simp only [stO, c72r23, c72l24m, go_sem, ↓reduceIte, reduceCtorEq, Nat.reduceAdd, Nat.reduceLeDiff, true_implies];refine ⟨inR_small (by omega) (by omega), hI (mk - (i + 1)) _ (by omega) ⟨i + 1, rfl, by omega, ?_⟩⟩
    rw [hT2];rfl
   ·rw [decide_eq_false hc]
    simp only [go_sem, Nat.reduceAdd, true_implies];have hT2 : stT L m (i + 1) = { s with f := s.f ++ [e'.n] } := by rw [hT]; unfold nxS; rw [if_pos (by unfold rfs; exact decide_eq_true (by omega))]
    simp only [c72r22, List.length_map, go_sem, Nat.reduceAdd, Nat.reduceLeDiff, Nat.reduceMul];refine ⟨by decide, by decide, rfl, one_cells, one_cells, by omega, by omega, by omega, ?_⟩
    simp only [spl6f, c72r23, c72l24m, Nat.reduceBEq, Bool.false_eq_true, beq_self_eq_true, go_sem, ↓reduceIte, Nat.reduceAdd, Nat.reduceLeDiff, true_implies];refine ⟨inR_small (by omega) (by omega), hI (mk - (i + 1)) _ (by omega) ⟨i + 1, rfl, by omega, ?_⟩⟩
    rw [hT2, stO, List.length_append, List.map_append];rfl
  ·have q1 : rlOf e'.k = rl4 := by unfold rlOf; rw [if_neg (by omega), if_neg (by omega), if_neg (by omega), if_pos h]
   have q2 : rlIs e'.k = true := by unfold rlIs; rw [h]; rfl
   rw [q1, q2];simp only [rl4, rule, spl_3, c72r19, c72r20, go_sem, Nat.reduceAdd, Nat.reduceLeDiff, true_implies];refine ⟨by kernel_rfl, callK_of (by simp only [slice_all rfl, stV, go_sem]) (k122 (s := s) (n := e'.a)) (.inl rfl) ?_⟩
   by_cases hc : e'.a <= s.b
   ·rw [decide_eq_true hc]
    simp only [go_sem, Nat.reduceAdd, true_implies]
    have hT2 : stT L m (i + 1) = { s with b := s.b - e'.a, r := s.r + e'.a } := by
     rw [hT]; unfold nxS;rw [if_neg (by unfold rfs; simp; omega), if_neg (by omega), if_neg (by omega), if_neg (by omega), if_pos h]
    simp only [c72r21, callvIK_s, go_sem, Nat.reduceAdd, Nat.reduceLeDiff, true_implies];refine ⟨by kernel_rfl, _, _, k127 (b := 1) (s := s) (v := .sl 4 0 s.f.length 1 false) rfl hb he.a0 he.a100 rfl rfl, ?_⟩
    simp only [stO, c72r23, c72l24m, go_sem, ↓reduceIte, reduceCtorEq, Nat.reduceAdd, Nat.reduceLeDiff, true_implies];refine ⟨inR_small (by omega) (by omega), hI (mk - (i + 1)) _ (by omega) ⟨i + 1, rfl, by omega, ?_⟩⟩
    rw [hT2];rfl
   ·rw [decide_eq_false hc]
    simp only [go_sem, Nat.reduceAdd, true_implies];have hT2 : stT L m (i + 1) = { s with f := s.f ++ [e'.n] } := by rw [hT]; unfold nxS; rw [if_pos (by unfold rfs; exact decide_eq_true (by omega))]
    simp only [c72r22, List.length_map, go_sem, Nat.reduceAdd, Nat.reduceLeDiff, Nat.reduceMul];refine ⟨by decide, by decide, rfl, one_cells, one_cells, by omega, by omega, by omega, ?_⟩
    simp only [spl6f, c72r23, c72l24m, Nat.reduceBEq, Bool.false_eq_true, beq_self_eq_true, go_sem, ↓reduceIte, Nat.reduceAdd, Nat.reduceLeDiff, true_implies];refine ⟨inR_small (by omega) (by omega), hI (mk - (i + 1)) _ (by omega) ⟨i + 1, rfl, by omega, ?_⟩⟩
    rw [hT2, stO, List.length_append, List.map_append];rfl
  ·have q1 : rlOf e'.k = rule 0 .nilf .nilf := by unfold rlOf; rw [if_neg (by omega), if_neg (by omega), if_neg (by omega), if_neg (by omega)]
   have q2 : rlIs e'.k = false := by unfold rlIs; rw [h]; rfl
   have hT2 : stT L m (i + 1) = s := by
    rw [hT]; unfold nxS;rw [if_neg (by unfold rfs; simp; omega), if_neg (by omega), if_neg (by omega), if_neg (by omega), if_neg (by omega)]
   rw [q1, q2];simp only [rule, spl_3, c72r19, c72r23, c72l24m, go_sem, ↓reduceIte, reduceCtorEq, Nat.reduceAdd, Nat.reduceLeDiff, true_implies];exact ⟨inR_small (by omega) (by omega), hI (mk - (i + 1)) _ (by omega) ⟨i + 1, rfl, by omega, by rw [hT2]; rfl⟩⟩
theorem k35 {L : List Ent} {m : Int} : E.Fn Tryz.prog 35 [ssn L, .int .i64 m] [stV (if ckM L m = 0 then stL L m else st0), .int .i64 (ckM L m)] := by
 refine fn_of_row okf35 ?_;simp only [FRow.start, f35, c35r0, c35r1, ssn, SV.cells, go_sem, Nat.reduceAdd, Nat.reduceSub, true_implies]
 by_cases h : ckS L = 0
 case neg =>
  have e : ckM L m = ckS L := by unfold ckM; rw [if_pos h]
  rw [e, if_neg h];refine callK_of (by simp only [ssn, go_sem]) (k60b h) (.inr (.inl (by simp only [ssn, go_sem]))) ?_
  simp only [c35r2, c35r3, h, spl6, stV, st0, ints, List.map_nil, go_sem, Nat.reduceAdd, true_implies]
 have hok := ckS_zero.1 h;refine callK_of (by simp only [ssn, go_sem]) (k60 hok) (.inr (.inl (by simp only [ssn, go_sem]))) ?_
 simp only [c35r2, c35r4, go_sem, Nat.reduceMul, true_implies];refine ⟨by decide, by decide, rfl, one_cells, callK_of (by simp only [go_sem]) (k65m (m := m)) (.inl rfl) ?_⟩
 by_cases hm : 0 <= m /\ m <= 4
 case neg =>
  have e : ckM L m = 2 := by unfold ckM; rw [if_neg (by simpa using h), if_neg hm]
  rw [e, if_neg (by decide), decide_eq_false hm]
  simp only [c35r5, spl6, stV, st0, ints, List.map_nil, go_sem, Nat.reduceAdd, true_implies]
 have e : ckM L m = 0 := by unfold ckM; rw [if_neg (by simpa using h), if_pos hm]
 rw [e, if_pos rfl, decide_eq_true hm];simp only [c35r6, go_sem, true_implies];refine callK_of (by simp only [go_sem]) (k72 hok hm.1 hm.2) (.inr (.inl (by simp only [go_sem]))) ?_
 simp only [spl6, stV, go_sem, Nat.reduceAdd, true_implies]
theorem k37 {L : List Ent} : E.Fn Tryz.prog 37 [ssn L] [.int .i64 (if ckS L = 0 then tkT L 5 else 0), .int .i64 (ckS L)] := by
 refine fn_of_row okf37 ?_;simp only [FRow.start, f37, c37r0, c37r1, ssn, SV.cells, go_sem, Nat.reduceSub, true_implies]
 by_cases h : ckS L = 0
 case neg =>
  rw [if_neg h];refine callK_of (by simp only [ssn, go_sem]) (k60b h) (.inr (.inl (by simp only [ssn, go_sem]))) ?_
  simp only [c37r2, c37r3, h, go_sem, true_implies]
 have hok := ckS_zero.1 h;rw [if_pos h, h];refine callK_of (by simp only [ssn, go_sem]) (k60 hok) (.inr (.inl (by simp only [ssn, go_sem]))) ?_
 have hdk : SV.ptr [ents L, .map (L.map keyE) (L.map ent), .int .i64 (mark L 0), .int .i64 (mark L 1), .int .i64 (mark L 2), .int .i64 (mark L 3), .int .i64 (mark L 4)] = dsk L := by unfold dsk; rw [mks_mark hok]
 simp only [c37r2, c37r4, c37r5, dsk, mks_mark hok, go_sem, Nat.reduceAdd, Nat.reduceLeDiff, true_implies];refine ⟨fun he => ?_, fun he => ?_⟩
 ·have hz : ∀ i : Nat, i < 5 -> mark L i = 0 := fun i hi => by
   simp only [SV.agg.injEq, List.cons.injEq, SV.int.injEq, true_and, and_true] at he;obtain ⟨h0, h1, h2, h3, h4⟩ := he;have : i = 0 \/ i = 1 \/ i = 2 \/ i = 3 \/ i = 4 := by omega
   rcases this with rfl | rfl | rfl | rfl | rfl
   ·exact Int.ofNat_eq_zero.1 h0
   ·exact Int.ofNat_eq_zero.1 h1
   ·exact Int.ofNat_eq_zero.1 h2
   ·exact Int.ofNat_eq_zero.1 h3
   ·exact Int.ofNat_eq_zero.1 h4
  have hb : ∀ i : Nat, i < 5 -> (stL L i).b = 0 := fun i hi => by unfold stL; rw [hz i hi]; rfl
  have ht : tkT L 5 = 0 := by
   rw [show (5 : Nat) = 4 + 1 from rfl, tkT_succ, show (4 : Nat) = 3 + 1 from rfl, tkT_succ, show (3 : Nat) = 2 + 1 from rfl, tkT_succ, show (2 : Nat) = 1 + 1 from rfl, tkT_succ, show (1 : Nat) = 0 + 1 from rfl, tkT_succ];have h0 := hb 0 (by decide); have h1 := hb 1 (by decide); have h2 := hb 2 (by decide); have h3 := hb 3 (by decide); have h4 := hb 4 (by decide)
   simp only [Nat.zero_add, Nat.reduceAdd] at *;rw [h0, h1, h2, h3, h4]; rfl
  rw [ht];simp only [c37r6, go_sem, true_implies]
 rw [hdk];simp only [c37r7, go_sem, true_implies]
 refine loop_rule (fun k τ => ∃ i : Nat, k = 5 - i /\ i <= 5 /\
  τ = ⟨[.any, .any, .any, .any, .s (dsk L), .any, aI (tkT L i), .any, .any, .any, .any, .any, .any, .any, .any, .any, .any, .any, .any, .any, .any, .any, .any, aI i, .any, .any, .any, .any, .any, .any, .any, .any, .any, .any], []⟩) 5 rfl ?_ ?_
 ·simp only [c37l12m, go_sem]
  exact ⟨0, rfl, by decide, rfl⟩
 rintro I k τ ⟨i, rfl, hi, rfl⟩ hI;have hb := tkT_bd hok (i := i);have hs := stL_bd (m := i) hok;have s0 := hs.b0; have s1 := hs.b1;simp only [c37l12, c37r8, go_sem, ↓reduceIte, true_implies];refine ⟨fun hlt => ?_, fun hge => ?_⟩
 ·simp only [c37r9, c37r10, go_sem, true_implies]
  refine callK_of (by simp only [go_sem]) (k72 (m := i) hok (by omega) (by omega)) (.inr (.inl (by simp only [go_sem]))) ?_
  simp only [stV, c37r11, c37l12m, go_sem, true_implies];refine ⟨inR_small (by omega) (by omega), inR_small (by omega) (by omega), hI (5 - (i + 1)) _ (by omega) ⟨i + 1, rfl, by omega, by rw [tkT_succ]; rfl⟩⟩
 ·have hie : i = 5 := by omega
  subst hie;simp only [c37r13, go_sem, true_implies]
theorem st_eq {a b : St} : a = b ↔ a.c = b.c /\ a.h = b.h /\ a.b = b.b /\ a.p = b.p /\ a.r = b.r /\ a.f = b.f := by
 cases a; cases b; simp
instance : DecidableEq St := fun _ _ => decidable_of_iff _ st_eq.symm
theorem st_ne {a b : St} (h : ¬ (a.c = b.c /\ a.h = b.h /\ a.b = b.b /\ a.p = b.p /\ a.r = b.r /\ a.f = b.f)) : [SV.bool false] = [SV.bool (decide (a = b))] := by
 rw [decide_eq_false fun e => h (st_eq.1 e)]
theorem k39 {a b : St} : E.Fn Tryz.prog 39 [stV a, stV b] [.bool (decide (a = b))] := by
 refine fn_of_row okf39 ?_;simp only [FRow.start, f39, c39r0, c39r1, stV, SV.cells, go_sem, Nat.reduceAdd, Nat.reduceSub, Nat.reduceLeDiff, true_implies];refine ⟨fun h1 => ⟨fun h2 => ⟨fun h3 => ⟨fun h4 => ⟨fun h5 => ?_, fun h => st_ne fun e => h e.2.2.2.2.1⟩, fun h => st_ne fun e => h e.2.2.2.1⟩, fun h => st_ne fun e => h e.2.2.1⟩, fun h => st_ne fun e => h e.2.1⟩, fun h => st_ne fun e => h e.1⟩
 refine callK_of (by simp only [ints, go_sem]) (k34 (xs := a.f) (ys := b.f)) (.inl rfl) ?_
 simp only [go_sem, true_implies]
 congr 2
 rw [decide_eq_decide];exact ⟨fun h => st_eq.2 ⟨h1, h2, h3, h4, h5, h⟩, fun h => by rw [h]⟩
theorem fn_eq {f : FuncId} {xs rs rz : List SV} (h : E.Fn Tryz.prog f xs rs) (e : rs = rz) : E.Fn Tryz.prog f xs rz := e ▸ h
def fT : List UInt8 := [48, 32, 51, 32, 98, 111, 120, 32, 50, 10, 48, 32, 52, 32, 112, 108, 101, 97, 32, 49, 10, 101, 110, 100, 32, 50, 10]
theorem v0 : E.Fn Tryz.prog 28 [ssn sS] [ints [3, 0, 3, 0, 0], .int .i64 0] := fn_eq k28 (by kernel_rfl)
theorem v1 : E.Fn Tryz.prog 30 [ssn sS, .int .i64 0] [ints [4], .int .i64 0] := fn_eq k30 (by kernel_rfl)
theorem v2 : E.Fn Tryz.prog 30 [ssn sS, .int .i64 5] [ints [], .int .i64 2] := fn_eq k30 (by kernel_rfl)
theorem v3 : E.Fn Tryz.prog 35 [ssn sS, .int .i64 0] [stV ⟨4, 1, 2, 2, 0, []⟩, .int .i64 0] := fn_eq k35 (by kernel_rfl)
theorem v4 : E.Fn Tryz.prog 35 [ssn sS, .int .i64 2] [stV ⟨0, 0, 0, 0, 0, [2]⟩, .int .i64 0] := fn_eq k35 (by kernel_rfl)
theorem v5 : E.Fn Tryz.prog 21 [ssn sS, ssn tS] [ssn jS, .int .i64 0] := fn_eq k21 (by kernel_rfl)
theorem v6 : E.Fn Tryz.prog 35 [ssn jS, .int .i64 0] [stV ⟨5, 2, 1, 2, 1, []⟩, .int .i64 0] := fn_eq k35 (by kernel_rfl)
theorem v7 : E.Fn Tryz.prog 37 [ssn sS] [.int .i64 2, .int .i64 0] := fn_eq k37 (by kernel_rfl)
theorem v8 : E.Fn Tryz.prog 37 [ssn jS] [.int .i64 1, .int .i64 0] := fn_eq k37 (by kernel_rfl)
theorem v9 : E.Fn Tryz.prog 19 [ssn sS, ent ⟨0, 2, 2, 3⟩] [ssn [], .int .i64 15] := fn_eq k19 (by kernel_rfl)
theorem v10 : E.Fn Tryz.prog 19 [ssn sS, ent ⟨0, 4, 5, 4⟩] [ssn [], .int .i64 2] := fn_eq k19 (by kernel_rfl)
theorem v11 : E.Fn Tryz.prog 32 [ssn jS, ints [3, 0, 3, 0, 0]] [ssn [⟨0, 4, 4, 1⟩, ⟨0, 5, 1, 1⟩], .int .i64 0] := fn_eq k32 (by kernel_rfl)
theorem v12 : E.Fn Tryz.prog 32 [ssn jS, ints [0, 0, 0]] [ssn [], .int .i64 3] := fn_eq k32 (by kernel_rfl)
theorem v13 : E.Fn Tryz.prog 40 [ssn tS] [.str (bL fT), .int .i64 0] := fn_eq k40 (by
 have e : filR tS = fT := by kernel_rfl
 rw [e]; rfl)
theorem v14 : E.Fn Tryz.prog 42 [.str (bL fT)] [ssn tS, .int .i64 0] := fn_eq (k42 (by decide)) (by
 have e : lodR fT = (tS, 0) := by kernel_rfl
 rw [e])
theorem k34t {l : List Int} : E.Fn Tryz.prog 34 [ints l, ints l] [.bool true] := fn_eq k34 (by rw [decide_eq_true rfl])
theorem k27t {l : List Ent} : E.Fn Tryz.prog 27 [ssn l, ssn l] [.bool true] := fn_eq k27 (by rw [decide_eq_true rfl])
theorem k39t {s : St} : E.Fn Tryz.prog 39 [stV s, stV s] [.bool true] := fn_eq k39 (by rw [decide_eq_true rfl])
set_option maxHeartbeats 4000000 in
theorem works_ok : E.Fn Tryz.prog 18 [] [.bool true] := by
 refine fn_of_row okf18 ?_;simp only [FRow.start, f18, c18r0, c18r1, go_sem, Nat.reduceSub, true_implies];refine callK_of rfl k54 (.inr (.inl rfl)) ?_;simp only [go_sem];refine callK_of rfl v0 (.inr (.inl rfl)) ?_;simp only [c18r2, go_sem, true_implies];refine callK_of rfl k54 (.inr (.inl rfl)) ?_;simp only [go_sem];refine callK_of rfl v1 (.inr (.inl rfl)) ?_;simp only [c18r3, go_sem, true_implies];refine callK_of rfl k54 (.inr (.inl rfl)) ?_;simp only [go_sem];refine callK_of rfl v2 (.inr (.inl rfl)) ?_;simp only [c18r4, go_sem, true_implies];refine callK_of rfl k54 (.inr (.inl rfl)) ?_;simp only [go_sem];refine callK_of rfl v3 (.inr (.inl rfl)) ?_;simp only [stV, splice, c18r5, go_sem, Nat.reduceAdd, true_implies];refine callK_of rfl k54 (.inr (.inl rfl)) ?_;simp only [go_sem];refine callK_of rfl v4 (.inr (.inl rfl)) ?_;simp only [stV, splice, c18r6, go_sem, Nat.reduceAdd, true_implies];refine callK_of rfl k54 (.inr (.inl rfl)) ?_;simp only [go_sem];refine callK_of rfl k55 (.inr (.inl rfl)) ?_;simp only [go_sem];refine callK_of rfl v5 (.inr (.inl rfl)) ?_;simp only [splice, ssn, c18r7, go_sem, Nat.reduceAdd, true_implies];refine callK_of rfl v6 (.inr (.inl rfl)) ?_;simp only [stV, splice, c18r8, go_sem, Nat.reduceAdd, true_implies];refine callK_of rfl k54 (.inr (.inl rfl)) ?_;simp only [go_sem];refine callK_of rfl v7 (.inl rfl) ?_;simp only [c18r9, go_sem, Nat.reduceAdd, true_implies];refine callK_of rfl k53 (.inr (.inl rfl)) ?_;simp only [go_sem];refine callK_of rfl v8 (.inl rfl) ?_;simp only [c18r10, go_sem, Nat.reduceAdd, true_implies];refine callK_of rfl k54 (.inr (.inl rfl)) ?_;simp only [go_sem];refine callK_of rfl (k51 (e := ⟨0, 2, 2, 3⟩)) (.inr (.inl rfl)) ?_;simp only [go_sem];refine callK_of rfl v9 (.inr (.inl rfl)) ?_;simp only [splice, ssn, c18r11, go_sem, Nat.reduceAdd, true_implies];refine callK_of rfl k54 (.inr (.inl rfl)) ?_;simp only [go_sem];refine callK_of rfl (k51 (e := ⟨0, 4, 5, 4⟩)) (.inr (.inl rfl)) ?_;simp only [go_sem];refine callK_of rfl v10 (.inr (.inl rfl)) ?_;simp only [splice, ssn, c18r12, go_sem, Nat.reduceAdd, true_implies];refine callK_of rfl k53 (.inr (.inl rfl)) ?_;simp only [go_sem, Nat.reduceMul];refine ⟨by decide, by decide, rfl, ints_cells (l := [3, 0, 3, 0, 0]), ?_⟩
 refine callK_of rfl (k56 (l := [3, 0, 3, 0, 0])) (.inr (.inl rfl)) ?_;simp only [go_sem];refine callK_of rfl v11 (.inr (.inl rfl)) ?_;simp only [splice, ssn, c18r13, go_sem, Nat.reduceAdd, true_implies];refine callK_of rfl k53 (.inr (.inl rfl)) ?_;simp only [go_sem, Nat.reduceMul];refine ⟨by decide, by decide, rfl, ints_cells (l := [0, 0, 0]), ?_⟩
 refine callK_of rfl (k56 (l := [0, 0, 0])) (.inr (.inl rfl)) ?_;simp only [go_sem];refine callK_of rfl v12 (.inr (.inl rfl)) ?_;simp only [splice, ssn, c18r14, go_sem, Nat.reduceAdd, true_implies];refine callK_of rfl k55 (.inr (.inl rfl)) ?_;simp only [go_sem];refine callK_of rfl v13 (.inl rfl) ?_;simp only [c18r15, go_sem, Nat.reduceAdd, true_implies];refine callK_of rfl v14 (.inr (.inl rfl)) ?_;simp only [splice, ssn, c18r16, go_sem, Nat.reduceAdd, true_implies];simp only [c18r18, go_sem, Nat.reduceMul];refine ⟨by decide, by decide, rfl, ints_cells (l := [3, 0, 3, 0, 0]), ?_⟩
 refine callK_of rfl (k56 (l := [3, 0, 3, 0, 0])) (.inr (.inl rfl)) ?_;simp only [go_sem];refine callK_of rfl (k34t (l := [3, 0, 3, 0, 0])) (.inl rfl) ?_;simp only [go_sem, Nat.reduceMul];refine ⟨by decide, by decide, rfl, ints_cells (l := [4]), ?_⟩
 refine callK_of rfl (k56 (l := [4])) (.inr (.inl rfl)) ?_;simp only [go_sem];refine callK_of rfl (k34t (l := [4])) (.inl rfl) ?_;simp only [go_sem, Nat.reduceAdd];refine callK_of rfl (k57 (s := ⟨4, 1, 2, 2, 0, []⟩)) (.inr (.inl rfl)) ?_;simp only [go_sem];refine callK_of rfl (k39t (s := ⟨4, 1, 2, 2, 0, []⟩)) (.inl rfl) ?_;simp only [go_sem, Nat.reduceAdd, Nat.reduceMul];refine ⟨by decide, by decide, rfl, ints_cells (l := [2]), ?_⟩
 refine callK_of rfl (k57 (s := ⟨0, 0, 0, 0, 0, [2]⟩)) (.inr (.inl rfl)) ?_;simp only [go_sem];refine callK_of rfl (k39t (s := ⟨0, 0, 0, 0, 0, [2]⟩)) (.inl rfl) ?_;simp only [go_sem];refine callK_of rfl k53 (.inr (.inl rfl)) ?_;simp only [go_sem];refine callK_of rfl (k27t (l := jS)) (.inl rfl) ?_;simp only [go_sem, Nat.reduceAdd];refine callK_of rfl (k57 (s := ⟨5, 2, 1, 2, 1, []⟩)) (.inr (.inl rfl)) ?_;simp only [go_sem];refine callK_of rfl (k39t (s := ⟨5, 2, 1, 2, 1, []⟩)) (.inl rfl) ?_;simp only [go_sem, Nat.reduceMul];refine ⟨by decide, by decide, rfl, ints_cells (l := [0, 4, 4, 1, 0, 5, 1, 1]), ?_⟩
 refine callK_of rfl (k58 (L := [⟨0, 4, 4, 1⟩, ⟨0, 5, 1, 1⟩]) (by decide)) (.inr (.inl rfl)) ?_
 simp only [go_sem];refine callK_of rfl (k27t (l := [⟨0, 4, 4, 1⟩, ⟨0, 5, 1, 1⟩])) (.inl rfl) ?_;simp only [go_sem, true_implies];refine ⟨fun _ => ?_, fun h => absurd rfl h⟩
 refine callK_of rfl k55 (.inr (.inl rfl)) ?_;simp only [go_sem];refine callK_of rfl (k27t (l := tS)) (.inl rfl) ?_;simp only [go_sem, true_implies]
theorem wk {H : List ABlock} {k : AK} (hk : k (LV.ofResults [.bool true]) H none True) : callK Tryz.prog H 18 [] k := callK_of rfl works_ok (.inl rfl) hk
end Go.Proofs.YtdlfkbpddfeenaaGreatDoor.Sk
