/- For every machine: which machines are valid, and the distances, are what the document's definitions say: the function SkillMachines answers true. -/
import Derived.Test.YtglmjdpmpgphkaaM14

set_option linter.all false

namespace Go.Proofs.Ytglmjdpmpgphkaa
open Go.ChangeShapes Go.WideShapes Go.ChangeAt Go.RowKit

theorem Try.own : ownKnob Try.prog.godebug = none := by kernel_rfl
theorem Try.laidOut : laidOutB Try.prog = true := by kernel_rfl

set_option maxRecDepth 100000 in
theorem skillMachines_lifted (os : Os) (started : os.Started) (H : Type) (enc : TypeId × Value → H) :
    ReturnsInHanded {} Try.checked os 3 .any (Rows.skillMachinesSpec.pre6 enc Try.prog Try.f3 Rows.skillMachinesRow.domain false) (Rows.skillMachinesSpec.post enc Try.prog Try.f3 false true false false) := by
  refine returnsInHanded_of_change (C := Try.checked) Try.own started (by kernel_rfl) Try.func3
    (ChangeSpec.witness6 (enc := enc) (C := Try.checked) false ⟨#[], #[.agg #[.slice none 0 0, .slice none 0 0, .slice none 0 0]], []⟩ 8 (by kernel_rfl) (by kernel_rfl) (by kernel_rfl) (by kernel_rfl)) ?_
  intro W base args ds gs before hval0 hW hcnd _
  have hval : ∀ (j : Nat) t v, Try.f3.params[j]? = some t → args[j]? = some v → Value.okWide Try.prog W .any base t v := hval0
  obtain ⟨p, q, hA0, hV, rfl, hfz, hnd⟩ := hW
  have hA : DataW.TrodAll enc Try.prog W 0 (fun _ => true) true Try.f3.params.toList args.toList ds p := hA0
  obtain ⟨rfl, rfl⟩ := trodVars_none hV
  simp only [List.append_nil] at hfz
  have hA1 := hA
  rw [Try.params3] at hA1 hval
  obtain ⟨v0, d0, rfl, rfl, ⟨fuel, h0⟩⟩ := trodAll_one hA1
  obtain ⟨c, rfl, _⟩ := okWide_struct Try.underlying25 (hval 0 25 v0 rfl rfl)
  obtain ⟨pl, mv, wn, hr, _⟩ := Sk.rel_mach h0
  refine (Sk.law3 (Sk.memOf W) W [.agg c] (Sk.memOf_holds W) ⟨_, _, rfl, Sk.vrel_agg hr rfl, rfl⟩).mono fun e W' ⟨xs, M', he, _, _, hx, ht, _⟩ => ?_
  rw [Sk.retOf_true hx] at he
  subst he
  refine ⟨_, rfl, Sk.law_post Try.laidOut hA hfz rfl rfl Try.underlying4 ?_ rfl (Sk.trodAll_lt hA) ht⟩
  intro t h
  rw [Try.params3] at h
  simp only [List.mem_cons, List.not_mem_nil, or_false] at h
  subst h
  exact ⟨by kernel_rfl, of_decide_eq_true (by kernel_rfl)⟩

theorem skillMachines_holds : Rows.SkillMachinesSaid :=
  OpenClaim.holds_of_wide 3 Try.f3 rfl rfl rfl rfl rfl rfl rfl ⟨rfl, rfl, rfl, rfl, rfl⟩ rfl rfl rfl rfl rfl (by kernel_rfl) Try.func3 (by kernel_rfl)
    (of_decide_eq_true (by kernel_rfl)) (by unfold Func.isWrapper; first | (rw [if_pos (by decide +kernel)]; kernel_rfl) | (rw [if_neg (by decide +kernel)]; exact ⟨rfl, rfl⟩))
    (fun os started H enc _ => skillMachines_lifted os started H enc)

end Go.Proofs.Ytglmjdpmpgphkaa
