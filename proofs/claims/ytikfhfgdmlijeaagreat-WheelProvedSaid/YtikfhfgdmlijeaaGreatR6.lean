/- For every valid machine that settles, and every proof: a proof that holds bounds the long-run pay, and the proof that is returned holds as both and has it as its gain: the function WheelProved answers true. -/
import Derived.Test.YtikfhfgdmlijeaaGreatJ8

set_option linter.all false

namespace Go.Proofs.YtikfhfgdmlijeaaGreat
open Go.ChangeShapes Go.WideShapes Go.ChangeAt Go.RowKit Go.E
theorem Tryz.own : ownKnob Tryz.prog.godebug = none := by kernel_rfl
theorem Tryz.laidOut : laidOutB Tryz.prog = true := by kernel_rfl
set_option maxRecDepth 100000 in
theorem wheelProved_lifted (os : Os) (started : os.Started) (H : Type) (enc : TypeId × Value -> H) :
  ReturnsInHanded {} Tryz.checked os 6 .any (Rows.wheelProvedSpec.pre6 enc Tryz.prog Tryz.f6 Rows.wheelProvedRow.domain false) (Rows.wheelProvedSpec.post enc Tryz.prog Tryz.f6 false true false false) := by
 refine returnsInHanded_of_change (C := Tryz.checked) Tryz.own started (by kernel_rfl) Tryz.func6
  (ChangeSpec.witness6 (enc := enc) (C := Tryz.checked) false ⟨#[], #[.agg #[.int .i64 0, .slice none 0 0, .slice none 0 0], .agg #[.int .i64 0, .int .i64 0, .slice none 0 0]], []⟩ 8 (by kernel_rfl) (by kernel_rfl) (by kernel_rfl) (by kernel_rfl)) ?_
 intro W base args ds gs before hval0 hW hcnd _;have hval : ∀ (j : Nat) t v, Tryz.f6.params[j]? = some t -> args[j]? = some v -> Value.okWide Tryz.prog W .any base t v := hval0;obtain ⟨p, q, hA0, hV, rfl, hfz, hnd⟩ := hW;have hA : DataW.TrodAll enc Tryz.prog W 0 (fun _ => true) true Tryz.f6.params.toList args.toList ds p := hA0
 obtain ⟨rfl, rfl⟩ := trodVars_none hV;simp only [List.append_nil] at hfz;have hA1 := hA;rw [Tryz.params6] at hA1 hval;obtain ⟨v0, s0, d0, t0, p0, q0, e0, rfl, ep0, ⟨f0, h0⟩, hr0⟩ := trodAll_cons hA1;obtain ⟨v1, s1, d1, t1, p1, q1, e1, rfl, ep1, ⟨f1, h1⟩, hr1⟩ := trodAll_cons hr0;obtain ⟨en, rfl, _⟩ := trodAll_nil hr1;have hargs : args = #[v0, v1] := by cases args; simp_all
 clear hA0 hval0;subst hargs;obtain ⟨c0, rfl, _⟩ := okWide_struct Tryz.underlying25 (hval 0 25 v0 rfl rfl);obtain ⟨s_0, N0, y0, r0⟩ := Sk.rel_mach h0;obtain ⟨c1, rfl, _⟩ := okWide_struct Tryz.underlying44 (hval 1 44 v1 rfl rfl);obtain ⟨a_1, g1, l1, r1⟩ := Sk.rel_proof h1;refine (Sk.law6 (Sk.memOf W) W [.agg c0, .agg c1] (Sk.memOf_holds W) ⟨_, _, rfl, Sk.vrel_agg r0 rfl, ⟨_, _, rfl, Sk.vrel_agg r1 rfl, rfl⟩⟩).mono fun e W' ⟨xs, M', he, _, _, hx, ht, _⟩ => ?_
 rw [Sk.retOf_true hx] at he;subst he;refine ⟨_, rfl, Sk.law_post Tryz.laidOut hA hfz rfl rfl Tryz.underlying4 ?_ rfl (Sk.trodAll_lt hA) ht⟩;intro t h;rw [Tryz.params6] at h;simp only [List.mem_cons, List.not_mem_nil, or_false] at h
 rcases h with rfl | rfl
 ·exact ⟨by kernel_rfl, of_decide_eq_true (by kernel_rfl)⟩
 ·exact ⟨by kernel_rfl, of_decide_eq_true (by kernel_rfl)⟩
theorem wheelProved_holds : Rows.WheelProvedSaid :=
 OpenClaim.holds_of_wide 6 Tryz.f6 rfl rfl rfl rfl rfl rfl rfl ⟨rfl, rfl, rfl, rfl, rfl⟩ rfl rfl rfl rfl rfl (by kernel_rfl) Tryz.func6 (by kernel_rfl)
  (of_decide_eq_true (by kernel_rfl)) (by unfold Func.isWrapper; first | (rw [if_pos (by decide +kernel)]; kernel_rfl) | (rw [if_neg (by decide +kernel)]; exact ⟨rfl, rfl⟩))
  (fun os started H enc _ => wheelProved_lifted os started H enc)
end Go.Proofs.YtikfhfgdmlijeaaGreat
