/- For every valid machine that settles, and numbers: if states have other numbers shares go with them and the long-run pay stays, if pays are turned so is it, and with as many times as many places all stays: the function WheelTurned answers true. -/
import Derived.Test.YtikfhfgdmlijeaaGreatJ9

set_option linter.all false

namespace Go.Proofs.YtikfhfgdmlijeaaGreat
open Go.ChangeShapes Go.WideShapes Go.ChangeAt Go.RowKit Go.E
theorem Tryz.own : ownKnob Tryz.prog.godebug = none := by kernel_rfl
theorem Tryz.laidOut : laidOutB Tryz.prog = true := by kernel_rfl
set_option maxRecDepth 100000 in
theorem wheelTurned_lifted (os : Os) (started : os.Started) (H : Type) (enc : TypeId × Value -> H) :
  ReturnsInHanded {} Tryz.checked os 9 .any (Rows.wheelTurnedSpec.pre6 enc Tryz.prog Tryz.f9 Rows.wheelTurnedRow.domain false) (Rows.wheelTurnedSpec.post enc Tryz.prog Tryz.f9 false true false false) := by
 refine returnsInHanded_of_change (C := Tryz.checked) Tryz.own started (by kernel_rfl) Tryz.func9
  (ChangeSpec.witness6 (enc := enc) (C := Tryz.checked) false ⟨#[], #[.agg #[.int .i64 0, .slice none 0 0, .slice none 0 0], .int .u8 0, .int .u8 0, .int .u8 0], []⟩ 8 (by kernel_rfl) (by kernel_rfl) (by kernel_rfl) (by kernel_rfl)) ?_
 intro W base args ds gs before hval0 hW hcnd _;have hval : ∀ (j : Nat) t v, Tryz.f9.params[j]? = some t -> args[j]? = some v -> Value.okWide Tryz.prog W .any base t v := hval0;obtain ⟨p, q, hA0, hV, rfl, hfz, hnd⟩ := hW;have hA : DataW.TrodAll enc Tryz.prog W 0 (fun _ => true) true Tryz.f9.params.toList args.toList ds p := hA0
 obtain ⟨rfl, rfl⟩ := trodVars_none hV;simp only [List.append_nil] at hfz;have hA1 := hA;rw [Tryz.params9] at hA1 hval;obtain ⟨v0, s0, d0, t0, p0, q0, e0, rfl, ep0, ⟨f0, h0⟩, hr0⟩ := trodAll_cons hA1;obtain ⟨v1, s1, d1, t1, p1, q1, e1, rfl, ep1, ⟨f1, h1⟩, hr1⟩ := trodAll_cons hr0;obtain ⟨v2, s2, d2, t2, p2, q2, e2, rfl, ep2, ⟨f2, h2⟩, hr2⟩ := trodAll_cons hr1;obtain ⟨v3, s3, d3, t3, p3, q3, e3, rfl, ep3, ⟨f3, h3⟩, hr3⟩ := trodAll_cons hr2;obtain ⟨en, rfl, _⟩ := trodAll_nil hr3;have hargs : args = #[v0, v1, v2, v3] := by cases args; simp_all
 clear hA0 hval0;subst hargs;obtain ⟨c0, rfl, _⟩ := okWide_struct Tryz.underlying25 (hval 0 25 v0 rfl rfl);obtain ⟨s_0, N0, y0, r0⟩ := Sk.rel_mach h0;obtain ⟨n1, rfl⟩ := okWide_int Tryz.underlying5 (hval 1 5 v1 rfl rfl);obtain w1 := Sk.rel_u8 h1;obtain ⟨n2, rfl⟩ := okWide_int Tryz.underlying5 (hval 2 5 v2 rfl rfl);obtain w2 := Sk.rel_u8 h2;obtain ⟨n3, rfl⟩ := okWide_int Tryz.underlying5 (hval 3 5 v3 rfl rfl);obtain w3 := Sk.rel_u8 h3;refine (Sk.law9i w1 w2 w3 (Sk.memOf W) W [.agg c0, .int .u8 n1, .int .u8 n2, .int .u8 n3] (Sk.memOf_holds W) ⟨_, _, rfl, Sk.vrel_agg r0 rfl, ⟨_, _, rfl, qj (x := .int .u8 n1) (v := .int .u8 n1) rfl rfl, ⟨_, _, rfl, qj (x := .int .u8 n2) (v := .int .u8 n2) rfl rfl, ⟨_, _, rfl, qj (x := .int .u8 n3) (v := .int .u8 n3) rfl rfl, rfl⟩⟩⟩⟩).mono fun e W' ⟨xs, M', he, _, _, hx, ht, _⟩ => ?_
 rw [Sk.retOf_true hx] at he;subst he;refine ⟨_, rfl, Sk.law_post Tryz.laidOut hA hfz rfl rfl Tryz.underlying4 ?_ rfl (Sk.trodAll_lt hA) ht⟩;intro t h;rw [Tryz.params9] at h;simp only [List.mem_cons, List.not_mem_nil, or_false] at h
 rcases h with rfl | rfl | rfl | rfl
 ·exact ⟨by kernel_rfl, of_decide_eq_true (by kernel_rfl)⟩
 ·exact ⟨by kernel_rfl, of_decide_eq_true (by kernel_rfl)⟩
 ·exact ⟨by kernel_rfl, of_decide_eq_true (by kernel_rfl)⟩
 ·exact ⟨by kernel_rfl, of_decide_eq_true (by kernel_rfl)⟩
theorem wheelTurned_holds : Rows.WheelTurnedSaid :=
 OpenClaim.holds_of_wide 9 Tryz.f9 rfl rfl rfl rfl rfl rfl rfl ⟨rfl, rfl, rfl, rfl, rfl⟩ rfl rfl rfl rfl rfl (by kernel_rfl) Tryz.func9 (by kernel_rfl)
  (of_decide_eq_true (by kernel_rfl)) (by unfold Func.isWrapper; first | (rw [if_pos (by decide +kernel)]; kernel_rfl) | (rw [if_neg (by decide +kernel)]; exact ⟨rfl, rfl⟩))
  (fun os started H enc _ => wheelTurned_lifted os started H enc)
end Go.Proofs.YtikfhfgdmlijeaaGreat
