/- The examples of the chapter on the wheel hold: the function WheelKnown answers true. -/
import Derived.Test.YtikfhfgdmlijeaaJ8

set_option linter.all false

namespace Go.Proofs.Ytikfhfgdmlijeaa
open Go.ChangeShapes Go.WideShapes Go.ChangeAt Go.RowKit
theorem Try.own : ownKnob Try.prog.godebug = none := by kernel_rfl
theorem Try.laidOut : laidOutB Try.prog = true := by kernel_rfl
set_option maxRecDepth 100000 in
theorem wheelKnown_lifted (os : Os) (started : os.Started) (H : Type) (enc : TypeId × Value -> H) :
  ReturnsInHanded {} Try.checked os 9 .any (Rows.wheelKnownSpec.pre6 enc Try.prog Try.f9 Rows.wheelKnownRow.domain false) (Rows.wheelKnownSpec.post enc Try.prog Try.f9 false true false false) := by
 refine returnsInHanded_of_change (C := Try.checked) Try.own started (by kernel_rfl) Try.func9
  (ChangeSpec.witness6 (enc := enc) (C := Try.checked) false ⟨#[], #[], []⟩ 8 (by kernel_rfl) (by kernel_rfl) (by kernel_rfl) (by kernel_rfl)) ?_
 intro W base args ds gs before hval0 hW hcnd _
 have hval : ∀ (j : Nat) t v, Try.f9.params[j]? = some t -> args[j]? = some v -> Value.okWide Try.prog W .any base t v := hval0
 obtain ⟨p, q, hA0, hV, rfl, hfz, hnd⟩ := hW
 have hA : DataW.TrodAll enc Try.prog W 0 (fun _ => true) true Try.f9.params.toList args.toList ds p := hA0
 rw [Try.params9] at hA hval
 obtain ⟨hn, rfl, rfl⟩ := trodAll_nil hA
 have hargs : args = #[] := by cases args; simpa using hn
 subst hargs
 obtain ⟨rfl, rfl⟩ := trodVars_none hV
 simp only [List.append_nil] at hfz
 refine (Sk.law9 Sk.noMem W [] (Sk.noMem_holds W) rfl).mono fun e W' ⟨xs, M', he, _, _, hx, ht, _⟩ => ?_
 rw [Sk.retOf_true hx] at he
 subst he
 exact ⟨_, rfl, Sk.law_post (p := []) Try.laidOut (by rw [Try.params9]; exact hA) hfz rfl rfl Try.underlying4 (by simp [Try.params9]) rfl (by simp) ht⟩
theorem wheelKnown_holds : Rows.WheelKnownSaid :=
 OpenClaim.holds_of_wide 9 Try.f9 rfl rfl rfl rfl rfl rfl rfl ⟨rfl, rfl, rfl, rfl, rfl⟩ rfl rfl rfl rfl rfl (by kernel_rfl) Try.func9 (by kernel_rfl)
  (of_decide_eq_true (by kernel_rfl)) (by unfold Func.isWrapper; first | (rw [if_pos (by decide +kernel)]; kernel_rfl) | (rw [if_neg (by decide +kernel)]; exact ⟨rfl, rfl⟩))
  (fun os started H enc _ => wheelKnown_lifted os started H enc)
end Go.Proofs.Ytikfhfgdmlijeaa
