/- The plain law of files: what is written is read again. -/
import Derived.Test.YtdlfkbpddfeenaaGreatDoorJ8

set_option linter.all false

namespace Go.Proofs.YtdlfkbpddfeenaaGreatDoor.Sk
open Go Go.E
theorem numR_dec {n : Nat} (h : n < 1000000000) : numR (Lib.decDigits n) = ((n : Int), true) := by
 have hd := digs_dec n;have hlead := dec_lead (u := n);have hlen := Lib.decDigits_length n;have hpos := Lib.nDigits_pos n;have hle := nD_le 8 n h;unfold numR;rw [if_neg (by rintro (h | h | h); omega; omega; exact hlead h), hd]
theorem dig_mem : ∀ (l : List UInt8) (a n : Nat), digs a l = some n -> ∀ x ∈ l, 48 <= x.toNat /\ x.toNat <= 57
 | [], _, _, _, x, hx => by cases hx
 | y :: l, a, n, h, x, hx => by
  have h1 := digs_first h;simp only [digs] at h
  split at h
  ·cases h
  ·rcases List.mem_cons.1 hx with rfl | hx
   ·exact h1
   ·exact dig_mem l _ n h x hx
theorem dec_no {n : Nat} {c : UInt8} (hc : c.toNat < 48) : c ∉ Lib.decDigits n := fun h => by
 have := dig_mem _ _ _ (digs_dec n) c h;omega
theorem dc32 (n : Int) : (32 : UInt8) ∉ dcL n := dec_no (by decide)
theorem dc10 (n : Int) : (10 : UInt8) ∉ dcL n := dec_no (by decide)
theorem wd_no : ∀ j : Nat, j < 5 -> ∀ c : UInt8, c = 32 \/ c = 10 -> c ∉ wdL.getD j [] := by
 intro j hj c hc;have : j = 0 \/ j = 1 \/ j = 2 \/ j = 3 \/ j = 4 := by omega
 rcases hc with rfl | rfl <;> rcases this with rfl | rfl | rfl | rfl | rfl <;> decide
def lnB (e : Ent) : List UInt8 := dcL e.m ++ 32 :: (dcL e.n ++ 32 :: (wdL.getD (e.k - 1).toNat [] ++ 32 :: dcL e.a))
theorem lin_lnB (e : Ent) : linL e = lnB e ++ [10] := by simp [linL, lnB]
theorem enR_lnB {e : Ent} (h : OkE e) : enR (lnB e) = (e, true) := by
 have h1 := h.m0; have h2 := h.m4; have h3 := h.n1; have h4 := h.n30; have h5 := h.a0; have h6 := h.a100; have h7 := h.k1; have h8 := h.k5
 have hp : prt 32 (lnB e) = [dcL e.m, dcL e.n, wdL.getD (e.k - 1).toNat [], dcL e.a] := by
  unfold lnB;rw [prt_app (dc32 _), prt_app (dc32 _), prt_app (wd_no _ (by omega) 32 (.inl rfl)), prt_none (dc32 _)]
 have hk : kdL (wdL.getD (e.k - 1).toNat []) = e.k := by rw [kd_hit (j := (e.k - 1).toNat) (by omega) rfl]; omega
 have hm : numR (dcL e.m) = (e.m, true) := by unfold dcL; rw [numR_dec (by omega)]; congr 1; omega
 have hn : numR (dcL e.n) = (e.n, true) := by unfold dcL; rw [numR_dec (by omega)]; congr 1; omega
 have ha : numR (dcL e.a) = (e.a, true) := by unfold dcL; rw [numR_dec (by omega)]; congr 1; omega
 unfold enR;rw [hp];simp only [hk, hm, hn, ha];rw [if_neg (by rintro (h | h | h | h); omega; cases h; cases h; cases h)]
theorem lnB_no {e : Ent} (h : OkE e) : (10 : UInt8) ∉ lnB e := by
 have h7 := h.k1; have h8 := h.k5;unfold lnB;simp only [List.mem_append, List.mem_cons, not_or];exact ⟨dc10 _, by decide, dc10 _, by decide, wd_no _ (by omega) 10 (.inr rfl), by decide, dc10 _⟩
def enB (n : Nat) : List UInt8 := [101, 110, 100] ++ 32 :: dcL n
theorem end_enB (n : Nat) : endL n = enB n ++ [10] := by simp [endL, enB]
theorem enB_no (n : Nat) : (10 : UInt8) ∉ enB n := by
 unfold enB;simp only [List.mem_append, List.mem_cons, not_or];exact ⟨by decide, by decide, dc10 _⟩
theorem prt_file : ∀ {A : List Ent} (n : Nat), (∀ e ∈ A, OkE e) -> prt 10 (A.flatMap linL ++ enB n) = A.map lnB ++ [enB n]
 | [], n, _ => prt_none (enB_no n)
 | e :: A, n, h => by
  rw [List.flatMap_cons, lin_lnB, List.append_assoc, List.append_assoc, List.singleton_append, prt_app (lnB_no (h e (List.mem_cons_self ..))), prt_file n fun x hx => h x (List.mem_cons_of_mem _ hx)]
  rfl
theorem fil_shape (A : List Ent) : filL A = (A.flatMap linL ++ enB A.length) ++ [10] := by
 unfold filL; rw [end_enB, List.append_assoc]
theorem linL_14 {e : Ent} (h : OkE e) : (linL e).length <= 14 := by
 have h1 := h.m0; have h2 := h.m4; have h3 := h.n1; have h4 := h.n30; have h5 := h.a0; have h6 := h.a100; have h7 := h.k1; have h8 := h.k5;have l1 : (dcL e.m).length <= 1 := by unfold dcL; rw [Lib.decDigits_length]; exact nD_le 0 _ (by omega)
 have l2 : (dcL e.n).length <= 2 := by unfold dcL; rw [Lib.decDigits_length]; exact nD_le 1 _ (by omega)
 have l3 : (dcL e.a).length <= 3 := by unfold dcL; rw [Lib.decDigits_length]; exact nD_le 2 _ (by omega)
 have := wdL_len (j := (e.k - 1).toNat) (by omega)
 simp only [linL, List.length_append, List.length_cons, List.length_nil]; omega
theorem flat_14 : ∀ {l : List Ent}, (∀ e ∈ l, OkE e) -> (l.flatMap linL).length <= l.length * 14
 | [], _ => by simp
 | e :: l, h => by
  have := flat_14 (l := l) fun x hx => h x (List.mem_cons_of_mem _ hx)
  have := linL_14 (h e (List.mem_cons_self ..));simp only [List.flatMap_cons, List.length_append, List.length_cons]; omega
theorem fil_len {A : List Ent} (h : OkS A) : (filL A).length <= 500 := by
 have := flat_14 h.ent;have := h.len;have l1 : (dcL A.length).length <= 2 := by unfold dcL; rw [Lib.decDigits_length]; exact nD_le 1 _ (by omega)
 rw [fil_shape, enB];simp only [List.length_append, List.length_cons, List.length_nil]; omega
theorem lod_fil {A : List Ent} (h : OkS A) : lodR (filL A) = (A, 0) := by
 have hl := fil_len h;have hL := h.len
 have he : (A.map lnB).map (fun p => (enR p).1) = A := by
  rw [List.map_map]
  conv => rhs; rw [<- List.map_id A]
  exact List.map_congr_left fun e he => by show (enR (lnB e)).1 = e; rw [enR_lnB (h.ent e he)]
 unfold lodR;rw [if_neg (by omega)]
 have e1 : (filL A).getLast? = some 10 := by rw [fil_shape, List.getLast?_concat]
 have e2 : (filL A).dropLast = A.flatMap linL ++ enB A.length := by rw [fil_shape, List.dropLast_concat]
 rw [if_pos e1, e2, prt_file _ h.ent, List.dropLast_concat, List.getLastD_concat];unfold bodyR
 rw [if_pos (List.all_eq_true.2 fun p hp => by
  obtain ⟨e, he, rfl⟩ := List.mem_map.1 hp;rw [enR_lnB (h.ent e he)])]
 have e3 : endN (enB A.length) = some (A.length : Int) := by
  unfold endN enB;rw [prt_app (by decide), prt_none (dc32 _)]
  simp only;have : numR (dcL A.length) = ((A.length : Int), true) := by unfold dcL; rw [numR_dec (by omega)]; rfl
  rw [this, if_pos ⟨trivial, rfl⟩]
 rw [e3];simp only;rw [if_pos (by rw [List.length_map]), he, if_pos (ckS_zero.2 h)]
def jnC (c : UInt8) : List (List UInt8) -> List UInt8
 | [] => []
 | p :: ps => match ps with
  | [] => p
  | _ :: _ => p ++ c :: jnC c ps
theorem jnC_prt (c : UInt8) : ∀ l, jnC c (prt c l) = l
 | [] => rfl
 | x :: l => by
  have ih := jnC_prt c l;unfold prt
  cases hp : prt c l with
  | nil => exact absurd hp (prt_ne c l)
  | cons p ps =>
   rw [hp] at ih
   split
   ·rename_i hx
    rw [jnC];simp only [List.nil_append, ih, hx]
   ·cases ps with
    | nil => simp only [jnC] at ih ⊢; rw [ih]
    | cons q qs => simp only [jnC] at ih ⊢; rw [<- ih]; rfl
theorem jnC_cons {c : UInt8} {p : List UInt8} {ps : List (List UInt8)} (h : ps ≠ []) : jnC c (p :: ps) = p ++ c :: jnC c ps := by
 cases ps with
 | nil => exact absurd rfl h
 | cons q qs => rfl
theorem jnC_file (z : List UInt8) : ∀ L : List Ent, jnC 10 (L.map lnB ++ [z]) = L.flatMap linL ++ z
 | [] => rfl
 | e :: L => by
  rw [List.map_cons, List.cons_append, jnC_cons (by simp), jnC_file z L, List.flatMap_cons, lin_lnB]
  simp
theorem numR_inv {a : List UInt8} (h : (numR a).2 = true) : a = dcL (numR a).1 := by
 unfold numR at h ⊢
 split at h
 ·cases h
 ·rename_i hc
  rw [if_neg hc]
  cases hd : digs 0 a with
  | none => rw [hd] at h; cases h
  | some n =>
   simp only;exact dec_of_digs a n (fun e => hc (.inl (by rw [e]; rfl))) (fun e => hc (.inr (.inr e))) hd
theorem kd_inv {c : List UInt8} (h : kdL c ≠ 0) : c = wdL.getD (kdL c - 1).toNat [] := by
 by_cases he : ∃ j, j < 5 /\ wdL.getD j [] = c
 ·obtain ⟨j, hj, hc⟩ := he
  rw [kd_hit hj hc, show ((j : Int) + 1 - 1).toNat = j by omega, hc]
 ·exact absurd (kd_miss fun j hj hc => he ⟨j, hj, hc⟩) h
theorem enR_inv {p : List UInt8} (h : (enR p).2 = true) : p = lnB (enR p).1 := by
 have hj := jnC_prt 32 p;unfold enR at h ⊢
 match hp : prt 32 p with
 | [a, b, c, d] =>
  rw [hp] at h hj;simp only at h ⊢
  by_cases hc : kdL c = 0 \/ (numR a).2 = false \/ (numR b).2 = false \/ (numR d).2 = false
  ·rw [if_pos hc] at h; cases h
  ·rw [if_neg hc]
   have t : ∀ {x : Bool}, ¬ x = false -> x = true := fun {x} hx => by cases x; exact absurd rfl hx; rfl
   have h1 : kdL c ≠ 0 := fun e => hc (.inl e)
   have h2 := numR_inv (a := a) (t fun e => hc (.inr (.inl e)))
   have h3 := numR_inv (a := b) (t fun e => hc (.inr (.inr (.inl e))))
   have h4 := numR_inv (a := d) (t fun e => hc (.inr (.inr (.inr e))))
   have h5 := kd_inv h1;rw [<- hj];unfold lnB;simp only;rw [<- h2, <- h3, <- h4, <- h5];rfl
 | [] => rw [hp] at h; cases h
 | [_] => rw [hp] at h; cases h
 | [_, _] => rw [hp] at h; cases h
 | [_, _, _] => rw [hp] at h; cases h
 | _ :: _ :: _ :: _ :: _ :: _ => rw [hp] at h; cases h
theorem endN_inv {z : List UInt8} {n : Nat} (h : endN z = some (n : Int)) : z = enB n := by
 unfold endN at h
 split at h
 ·rename_i e d hq
  split at h
  ·rename_i hc
   obtain ⟨rfl, hd⟩ := hc;rw [prt_two hq, numR_inv hd, Option.some.inj h];rfl
  ·cases h
 ·cases h
theorem lod_bad {l : List UInt8} (h : (lodR l).2 ≠ 0) : (lodR l).1 = [] := by
 unfold lodR bodyR at *
 split
 ·rfl
 ·split
  ·split
   ·split
    ·rfl
    ·split
     ·split
      ·simp_all
      ·rfl
     ·rfl
   ·rfl
  ·rfl
theorem lod_good {l : List UInt8} (h : (lodR l).2 = 0) : OkS (lodR l).1 /\ filL (lodR l).1 = l := by
 unfold lodR at h ⊢
 split at h
 ·cases h
 ·rename_i hl
  rw [if_neg hl]
  split at h
  ·rename_i hg
   rw [if_pos hg];obtain ⟨B, z, hP, hQ⟩ := lod_nl hg;have hne : l ≠ [] := fun e => by rw [e] at hg; cases hg
   have hlast : l = l.dropLast ++ [10] := by
    have h1 := List.dropLast_concat_getLast hne;rw [List.getLast?_eq_some_getLast hne] at hg;rw [<- Option.some.inj hg];exact h1.symm
   have hj := jnC_prt 10 l.dropLast;rw [hQ] at h hj ⊢;rw [List.dropLast_concat, List.getLastD_concat] at h ⊢;unfold bodyR at h ⊢
   split at h
   ·rename_i hall
    rw [if_pos hall]
    have hB : (B.map fun p => (enR p).1).map lnB = B := by
     rw [List.map_map]
     conv => rhs; rw [<- List.map_id B]
     exact List.map_congr_left fun p hp => (enR_inv (List.all_eq_true.1 hall p hp)).symm
    cases hn : endN z with
    | none => rw [hn] at h; cases h
    | some n =>
     rw [hn] at h;simp only at h ⊢
     split at h
     ·rename_i hnb
      subst hnb;rw [if_pos rfl]
      split at h
      ·rename_i hck
       rw [if_pos hck];refine ⟨ckS_zero.1 hck, ?_⟩;simp only;have hz := endN_inv hn;rw [fil_shape, List.length_map, <- hz, <- jnC_file, hB, hj];exact hlast.symm
      ·rename_i hck; exact absurd h hck
     ·cases h
   ·cases h
  ·cases h
end Go.Proofs.YtdlfkbpddfeenaaGreatDoor.Sk
