/- The lemmas that every reckoning takes, marked. -/
import Derived.Test.YtmcjoahnlbckoaaJ5

set_option linter.all false

namespace Go.E.Sm
open Go
attribute [go_sem] List.replicate List.append_nil List.cons_append List.nil_append List.length_cons List.length_nil List.map_cons List.map_nil List.getElem?_cons_zero List.getElem?_cons_succ and_true true_and forall_const if_true if_false Int.toNat_natCast List.getElem?_map Option.map_some Option.bind_some Bool.not_true Bool.not_false List.take_nil List.length_map eq_self List.all_cons List.all_nil Bool.and_true Int.ofNat_lt Bool.and_self finK resK Int.natCast_nonneg implies_true List.take_zero Nat.zero_add List.drop_zero List.drop_succ_cons List.take_succ_cons List.set_cons_zero List.set_cons_succ decide_true decide_false Int.le_refl Nat.le_refl List.flatten_cons List.flatten_nil
theorem promo_one {d sz : Nat} {σ : AState} (h : fget σ.fr d = .full []) : promote [(d, none, sz)] σ = { fr := fset σ.fr d (.sl σ.hp.length 0 0 (sz + 1) false), hp := σ.hp ++ [.row []] } := by
 simp only [promote, promote1, h]
attribute [go_sem] finR
/-! Loops and rounds of code with ranges over functions. -/
section
variable {P : Program} {n0 n m i : Nat} {mask : List Bool} {I : AState -> Prop} {J' : List ABlock -> Prop} {Q : AExit -> AState -> Prop} {τ : AState} {pr : List (Nat × Option Nat × Nat)} {b : BCode} {σ : AState} {fr l : List LV} {H : List ABlock} {as body : ACode}
theorem bloop_rule (J : Nat -> AState -> Prop) (m : Nat) {σ' : AState} (hσ : promote pr σ = σ') (h0 : J m (norm mask σ'.hp.length σ'))
  (hs : ∀ (I : AState -> Prop) k τ, J k τ -> (∀ k' τ', k' < k -> J k' τ' -> I τ') -> bwp P n0 b τ (loopK mask σ'.hp.length I Q)) : bwp P n0 (.loop mask pr b) σ Q := by
 subst hσ
 refine bwp_loop J m h0 fun I k τ hJ hI => ?_
 have h : (fun (e : AExit) (τ' : AState) => match e with | .normal => I (norm mask (promote pr σ).hp.length τ') | e => Q e τ') = loopK mask (promote pr σ).hp.length I Q := by funext e τ; cases e <;> rfl
 have := hs I k τ hJ hI
 rw [<- h] at this
 exact this
theorem promo_rule {ps : List (Nat × Option Nat × Nat)} {σ' : AState} (h : promote ps σ = σ') (hb : bwp P n0 b σ' Q) : bwp P n0 (.promo ps b) σ Q := by
 simp only [bwp, h]; exact hb
def roundK (n : Nat) (fr : List LV) (I : List ABlock -> Prop) (Q : AExit -> AState -> Prop) : AExit -> AState -> Prop
 | .normal, σ => I (killed n σ.hp)
 | e, σ => Q e ⟨fr, killed n σ.hp⟩
noncomputable def roundA (P : Program) (m n : Nat) (body : ACode) (fr : List LV) (I : List ABlock -> Prop) (Q : AExit -> AState -> Prop) : AExit -> AState -> Prop := fun e σ => e = .normal /\ awp P m body σ (roundK n fr I Q)
@[go_sem] theorem roundK_n : (roundK n fr J' Q .normal ⟨l, H⟩) = (J' ((H.take n).map (fgtB fun b => decide (n <= b)))) := propext Iff.rfl
@[go_sem] theorem roundK_e : (roundK n fr J' Q (.exit i) ⟨l, H⟩) = (Q (.exit i) ⟨fr, (H.take n).map (fgtB fun b => decide (n <= b))⟩) := propext Iff.rfl
@[go_sem] theorem roundK_r : (roundK n fr J' Q .ret ⟨l, H⟩) = (Q .ret ⟨fr, (H.take n).map (fgtB fun b => decide (n <= b))⟩) := propext Iff.rfl
@[go_sem] theorem roundA_n : (roundA P m n body fr J' Q .normal τ) = (awp P m body τ (roundK n fr J' Q)) := by simp [roundA]
@[go_sem] theorem below_mk : below m fr = fgtL (fun b => decide (m <= b)) fr := rfl
theorem range_rule {mv p : Nat} {x : AX} {g : FuncId} {caps xs : List SV} (J : List SV -> List ABlock -> Prop) (hx : x.ev fr = .s (.fn g [] caps)) (hok : okFn P g = true)
  (hc : (caps.map LV.s).all LV.isOne = true) (hy : Yields P g caps xs) (hf : ∀ v ∈ xs, v.flat = true) (hn : n0 <= H.length - mv) (h0 : J xs H) {fr' : List LV} (hfr : below (H.length - mv) fr = fr') (h1 : ∀ H', J [] H' -> Q .normal ⟨fr', H'⟩)
  (hs : ∀ v vs H' (I : List ABlock -> Prop), J (v :: vs) H' -> (∀ H'', J vs H'' -> I H'') -> awp P (H.length - mv) as ⟨fset fr' p (.s v), H'⟩ (roundA P (H.length - mv) H.length body fr' I Q)) :
  bwp P n0 (.rangeF mv x p as body) ⟨fr, H⟩ Q := by
 subst hfr
 refine bwp_range J hx hok hc hy hf hn h0 h1 fun v vs H' I hJ hI => ?_
 have h : (fun (e2 : AExit) (σ2 : AState) => match e2 with
   | .normal => I (killed H.length σ2.hp)
   | e2 => Q e2 ⟨below (H.length - mv) fr, killed H.length σ2.hp⟩) = roundK H.length (below (H.length - mv) fr) I Q := by funext e τ; cases e <;> rfl
 have := hs v vs H' I hJ hI
 unfold roundA at this
 rw [<- h] at this
 exact this
end
end Go.E.Sm
