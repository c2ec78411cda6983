/- For every valid season and three parts of it: seasons are joined in whatever order to the same one, and a season joined with itself, or with a part of it, is the season: the function SeasonJoined answers true. -/
import Derived.Test.YtdlfkbpddfeenaaGreatDoorJ10
import Derived.Test.YtdlfkbpddfeenaaGreatDoorCards

set_option linter.all false

namespace Go.Proofs.YtdlfkbpddfeenaaGreatDoor
open Go.ChangeShapes Go.WideShapes Go.ChangeAt Go.RowKit Go.E
theorem Tryz.laidOut : laidOutB Tryz.prog = true := by kernel_rfl
set_option maxRecDepth 100000 in
theorem seasonJoined_lifted (os : Os) (started : os.Started) (H : Type) (enc : TypeId × Value -> H) :
  ReturnsInHanded {} Tryz.checked os 8 .any (fun w args => (Rows.seasonJoinedSpec.pre enc Tryz.prog Tryz.f8 [] false w args /\ laidMetH Tryz.prog Sk.laidL w) /\ sizedMet enc Tryz.prog Tryz.f8 (OpenSpec.ofChange Rows.seasonJoinedSpec) false w args)
   (Rows.seasonJoinedSpec.post enc Tryz.prog Tryz.f8 false true false false) := by
 refine Sk.ret_laid0 (C := Tryz.checked) (L := Sk.laidL) (fun W h h2 => Sk.memOf_gw h h2) (show ownKnob Tryz.prog.godebug = none by kernel_rfl) started (by kernel_rfl) Tryz.func8
  (ChangeSpec.witness_shaped (enc := enc) (C := Tryz.checked) (os := os) (X := fun w _ => laidMetH Tryz.prog Sk.laidL w) false (World.laidAll Tryz.prog os Sk.laidL) #[.agg #[.slice none 0 0], .int .u32 0, .int .u32 0, .int .u32 0] 8 (World.laidAll_os _ _ _)
   (World.shaped_of_ZipB (by kernel_rfl) (by kernel_rfl)) (by kernel_rfl) (by kernel_rfl) (by kernel_rfl)
   (by rw [MakeChecks.laidMetH_plain _ _ _ (by kernel_rfl)]; exact laidMet_laidAll _ (by kernel_rfl) (by kernel_rfl))) ?_
 intro W base args ds gs before hval0 hW hG;have hval : ∀ (j : Nat) t v, Tryz.f8.params[j]? = some t -> args[j]? = some v -> Value.okWide Tryz.prog W .any base t v := hval0;obtain ⟨p, q, hA0, hV, rfl, hfz, hnd⟩ := hW;have hA : DataW.TrodAll enc Tryz.prog W 0 (fun _ => true) true Tryz.f8.params.toList args.toList ds p := hA0
 obtain ⟨rfl, rfl⟩ := trodVars_none hV;simp only [List.append_nil] at hfz;have hA1 := hA;rw [Tryz.params8] at hA1 hval;obtain ⟨v0, s0, d0, t0, p0, q0, e0, rfl, ep0, ⟨f0, h0⟩, hr0⟩ := trodAll_cons hA1;obtain ⟨v1, s1, d1, t1, p1, q1, e1, rfl, ep1, ⟨f1, h1⟩, hr1⟩ := trodAll_cons hr0;obtain ⟨v2, s2, d2, t2, p2, q2, e2, rfl, ep2, ⟨f2, h2⟩, hr2⟩ := trodAll_cons hr1;obtain ⟨v3, s3, d3, t3, p3, q3, e3, rfl, ep3, ⟨f3, h3⟩, hr3⟩ := trodAll_cons hr2;obtain ⟨en, rfl, _⟩ := trodAll_nil hr3;have hargs : args = #[v0, v1, v2, v3] := by cases args; simp_all
 clear hA0 hval0;subst hargs;obtain ⟨c0, rfl, _⟩ := okWide_struct Tryz.underlying24 (hval 0 24 v0 rfl rfl);obtain ⟨L0, r0⟩ := Sk.rel_ssn h0;obtain ⟨n1, rfl⟩ := okWide_int Tryz.underlying59 (hval 1 59 v1 rfl rfl);obtain w1 := Sk.rel_u32 h1;obtain ⟨n2, rfl⟩ := okWide_int Tryz.underlying59 (hval 2 59 v2 rfl rfl);obtain w2 := Sk.rel_u32 h2;obtain ⟨n3, rfl⟩ := okWide_int Tryz.underlying59 (hval 3 59 v3 rfl rfl);obtain w3 := Sk.rel_u32 h3;refine (Sk.l8i w1 w2 w3 (Sk.memOf W) W [.agg c0, .int .u32 n1, .int .u32 n2, .int .u32 n3] (Sk.memOf_holds hG) ⟨_, _, rfl, Sk.vrel_agg r0 rfl, ⟨_, _, rfl, vrel_of_one (x := .int .u32 n1) (v := .int .u32 n1) rfl rfl, ⟨_, _, rfl, vrel_of_one (x := .int .u32 n2) (v := .int .u32 n2) rfl rfl, ⟨_, _, rfl, vrel_of_one (x := .int .u32 n3) (v := .int .u32 n3) rfl rfl, rfl⟩⟩⟩⟩).mono fun e W' ⟨xs, M', he, _, _, hx, ht, _⟩ => ?_
 rw [Sk.retOf_true hx] at he;subst he;refine ⟨_, rfl, Sk.law_post Tryz.laidOut hA hfz rfl rfl Tryz.underlying4 ?_ rfl (Sk.trodAll_lt hA) ht⟩;intro t h;rw [Tryz.params8] at h;simp only [List.mem_cons, List.not_mem_nil, or_false] at h
 rcases h with rfl | rfl | rfl | rfl
 ·exact ⟨by kernel_rfl, of_decide_eq_true (by kernel_rfl)⟩
 ·exact ⟨by kernel_rfl, of_decide_eq_true (by kernel_rfl)⟩
 ·exact ⟨by kernel_rfl, of_decide_eq_true (by kernel_rfl)⟩
 ·exact ⟨by kernel_rfl, of_decide_eq_true (by kernel_rfl)⟩
end Go.Proofs.YtdlfkbpddfeenaaGreatDoor
