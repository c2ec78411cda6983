/- For every valid machine that settles: shares are 1 together, each is what comes to its state at a play, a state has none just if it is in no closed part, and the long-run pay is their pay together: the function WheelStays answers true. -/
import Derived.Test.YtikfhfgdmlijeaaGreatJ8

set_option linter.all false

namespace Go.Proofs.YtikfhfgdmlijeaaGreat
open Go.ChangeShapes Go.WideShapes Go.ChangeAt Go.RowKit Go.E
theorem Tryz.own : ownKnob Tryz.prog.godebug = none := by kernel_rfl
theorem Tryz.laidOut : laidOutB Tryz.prog = true := by kernel_rfl
set_option maxRecDepth 100000 in
theorem wheelStays_lifted (os : Os) (started : os.Started) (H : Type) (enc : TypeId × Value -> H) :
  ReturnsInHanded {} Tryz.checked os 7 .any (Rows.wheelStaysSpec.pre6 enc Tryz.prog Tryz.f7 Rows.wheelStaysRow.domain false) (Rows.wheelStaysSpec.post enc Tryz.prog Tryz.f7 false true false false) := by
 refine returnsInHanded_of_change (C := Tryz.checked) Tryz.own started (by kernel_rfl) Tryz.func7
  (ChangeSpec.witness6 (enc := enc) (C := Tryz.checked) false ⟨#[], #[.agg #[.int .i64 0, .slice none 0 0, .slice none 0 0]], []⟩ 8 (by kernel_rfl) (by kernel_rfl) (by kernel_rfl) (by kernel_rfl)) ?_
 intro W base args ds gs before hval0 hW hcnd _;have hval : ∀ (j : Nat) t v, Tryz.f7.params[j]? = some t -> args[j]? = some v -> Value.okWide Tryz.prog W .any base t v := hval0;obtain ⟨p, q, hA0, hV, rfl, hfz, hnd⟩ := hW;have hA : DataW.TrodAll enc Tryz.prog W 0 (fun _ => true) true Tryz.f7.params.toList args.toList ds p := hA0
 obtain ⟨rfl, rfl⟩ := trodVars_none hV;simp only [List.append_nil] at hfz;have hA1 := hA;rw [Tryz.params7] at hA1 hval;obtain ⟨v0, s0, d0, t0, p0, q0, e0, rfl, ep0, ⟨f0, h0⟩, hr0⟩ := trodAll_cons hA1;obtain ⟨en, rfl, _⟩ := trodAll_nil hr0;have hargs : args = #[v0] := by cases args; simp_all
 clear hA0 hval0;subst hargs;obtain ⟨c0, rfl, _⟩ := okWide_struct Tryz.underlying25 (hval 0 25 v0 rfl rfl);obtain ⟨s_0, N0, y0, r0⟩ := Sk.rel_mach h0;refine (Sk.law7 (Sk.memOf W) W [.agg c0] (Sk.memOf_holds W) ⟨_, _, rfl, Sk.vrel_agg r0 rfl, rfl⟩).mono fun e W' ⟨xs, M', he, _, _, hx, ht, _⟩ => ?_
 rw [Sk.retOf_true hx] at he;subst he;refine ⟨_, rfl, Sk.law_post Tryz.laidOut hA hfz rfl rfl Tryz.underlying4 ?_ rfl (Sk.trodAll_lt hA) ht⟩;intro t h;rw [Tryz.params7] at h;simp only [List.mem_cons, List.not_mem_nil, or_false] at h;subst h;exact ⟨by kernel_rfl, of_decide_eq_true (by kernel_rfl)⟩
theorem wheelStays_holds : Rows.WheelStaysSaid :=
 OpenClaim.holds_of_wide 7 Tryz.f7 rfl rfl rfl rfl rfl rfl rfl ⟨rfl, rfl, rfl, rfl, rfl⟩ rfl rfl rfl rfl rfl (by kernel_rfl) Tryz.func7 (by kernel_rfl)
  (of_decide_eq_true (by kernel_rfl)) (by unfold Func.isWrapper; first | (rw [if_pos (by decide +kernel)]; kernel_rfl) | (rw [if_neg (by decide +kernel)]; exact ⟨rfl, rfl⟩))
  (fun os started H enc _ => wheelStays_lifted os started H enc)
end Go.Proofs.YtikfhfgdmlijeaaGreat
