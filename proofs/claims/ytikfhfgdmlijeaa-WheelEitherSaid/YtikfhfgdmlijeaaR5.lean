/- For every valid machine: either it settles, or it has two closed parts; closed parts have no state in common, and each of their states leads to all of them and to no other: the function WheelEither answers true. -/
import Derived.Test.YtikfhfgdmlijeaaJ8

set_option linter.all false

namespace Go.Proofs.Ytikfhfgdmlijeaa
open Go.ChangeShapes Go.WideShapes Go.ChangeAt Go.RowKit Go.E
theorem Try.own : ownKnob Try.prog.godebug = none := by kernel_rfl
theorem Try.laidOut : laidOutB Try.prog = true := by kernel_rfl
set_option maxRecDepth 100000 in
theorem wheelEither_lifted (os : Os) (started : os.Started) (H : Type) (enc : TypeId × Value -> H) :
  ReturnsInHanded {} Try.checked os 5 .any (Rows.wheelEitherSpec.pre6 enc Try.prog Try.f5 Rows.wheelEitherRow.domain false) (Rows.wheelEitherSpec.post enc Try.prog Try.f5 false true false false) := by
 refine returnsInHanded_of_change (C := Try.checked) Try.own started (by kernel_rfl) Try.func5
  (ChangeSpec.witness6 (enc := enc) (C := Try.checked) false ⟨#[], #[.agg #[.int .i64 0, .slice none 0 0, .slice none 0 0]], []⟩ 8 (by kernel_rfl) (by kernel_rfl) (by kernel_rfl) (by kernel_rfl)) ?_
 intro W base args ds gs before hval0 hW hcnd _
 have hval : ∀ (j : Nat) t v, Try.f5.params[j]? = some t -> args[j]? = some v -> Value.okWide Try.prog W .any base t v := hval0
 obtain ⟨p, q, hA0, hV, rfl, hfz, hnd⟩ := hW
 have hA : DataW.TrodAll enc Try.prog W 0 (fun _ => true) true Try.f5.params.toList args.toList ds p := hA0
 obtain ⟨rfl, rfl⟩ := trodVars_none hV
 simp only [List.append_nil] at hfz
 have hA1 := hA
 rw [Try.params5] at hA1 hval
 obtain ⟨v0, s0, d0, t0, p0, q0, e0, rfl, ep0, ⟨f0, h0⟩, hr0⟩ := trodAll_cons hA1
 obtain ⟨en, rfl, _⟩ := trodAll_nil hr0
 have hargs : args = #[v0] := by cases args; simp_all
 clear hA0 hval0
 subst hargs
 obtain ⟨c0, rfl, _⟩ := okWide_struct Try.underlying25 (hval 0 25 v0 rfl rfl)
 obtain ⟨s_0, N0, y0, r0⟩ := Sk.rel_mach h0
 refine (Sk.law5 (Sk.memOf W) W [.agg c0] (Sk.memOf_holds W) ⟨_, _, rfl, Sk.vrel_agg r0 rfl, rfl⟩).mono fun e W' ⟨xs, M', he, _, _, hx, ht, _⟩ => ?_
 rw [Sk.retOf_true hx] at he
 subst he
 refine ⟨_, rfl, Sk.law_post Try.laidOut hA hfz rfl rfl Try.underlying4 ?_ rfl (Sk.trodAll_lt hA) ht⟩
 intro t h
 rw [Try.params5] at h
 simp only [List.mem_cons, List.not_mem_nil, or_false] at h
 subst h
 exact ⟨by kernel_rfl, of_decide_eq_true (by kernel_rfl)⟩
theorem wheelEither_holds : Rows.WheelEitherSaid :=
 OpenClaim.holds_of_wide 5 Try.f5 rfl rfl rfl rfl rfl rfl rfl ⟨rfl, rfl, rfl, rfl, rfl⟩ rfl rfl rfl rfl rfl (by kernel_rfl) Try.func5 (by kernel_rfl)
  (of_decide_eq_true (by kernel_rfl)) (by unfold Func.isWrapper; first | (rw [if_pos (by decide +kernel)]; kernel_rfl) | (rw [if_neg (by decide +kernel)]; exact ⟨rfl, rfl⟩))
  (fun os started H enc _ => wheelEither_lifted os started H enc)
end Go.Proofs.Ytikfhfgdmlijeaa
