/- For every valid season and machine: the mark is one less than the first number that is missing, or the greatest number, and an entry with the first missing number makes it greater: the function SeasonMissing answers true. -/
import Derived.Test.YtdlfkbpddfeenaaGreatDoorJ10
import Derived.Test.YtdlfkbpddfeenaaGreatDoorCards

set_option linter.all false

namespace Go.Proofs.YtdlfkbpddfeenaaGreatDoor
open Go.ChangeShapes Go.WideShapes Go.ChangeAt Go.RowKit Go.E
theorem Tryz.laidOut : laidOutB Tryz.prog = true := by kernel_rfl
set_option maxRecDepth 100000 in
theorem seasonMissing_lifted (os : Os) (started : os.Started) (H : Type) (enc : TypeId × Value -> H) :
  ReturnsInHanded {} Tryz.checked os 15 .any (fun w args => (Rows.seasonMissingSpec.pre enc Tryz.prog Tryz.f15 [] false w args /\ laidMetH Tryz.prog Sk.laidL w) /\ sizedMet enc Tryz.prog Tryz.f15 (OpenSpec.ofChange Rows.seasonMissingSpec) false w args)
   (Rows.seasonMissingSpec.post enc Tryz.prog Tryz.f15 false true false false) := by
 refine Sk.ret_laid0 (C := Tryz.checked) (L := Sk.laidL) (fun W h h2 => Sk.memOf_gw h h2) (show ownKnob Tryz.prog.godebug = none by kernel_rfl) started (by kernel_rfl) Tryz.func15
  (ChangeSpec.witness_shaped (enc := enc) (C := Tryz.checked) (os := os) (X := fun w _ => laidMetH Tryz.prog Sk.laidL w) false (World.laidAll Tryz.prog os Sk.laidL) #[.agg #[.slice none 0 0], .int .u8 0] 8 (World.laidAll_os _ _ _)
   (World.shaped_of_ZipB (by kernel_rfl) (by kernel_rfl)) (by kernel_rfl) (by kernel_rfl) (by kernel_rfl)
   (by rw [MakeChecks.laidMetH_plain _ _ _ (by kernel_rfl)]; exact laidMet_laidAll _ (by kernel_rfl) (by kernel_rfl))) ?_
 intro W base args ds gs before hval0 hW hG;have hval : ∀ (j : Nat) t v, Tryz.f15.params[j]? = some t -> args[j]? = some v -> Value.okWide Tryz.prog W .any base t v := hval0;obtain ⟨p, q, hA0, hV, rfl, hfz, hnd⟩ := hW;have hA : DataW.TrodAll enc Tryz.prog W 0 (fun _ => true) true Tryz.f15.params.toList args.toList ds p := hA0
 obtain ⟨rfl, rfl⟩ := trodVars_none hV;simp only [List.append_nil] at hfz;have hA1 := hA;rw [Tryz.params15] at hA1 hval;obtain ⟨v0, s0, d0, t0, p0, q0, e0, rfl, ep0, ⟨f0, h0⟩, hr0⟩ := trodAll_cons hA1;obtain ⟨v1, s1, d1, t1, p1, q1, e1, rfl, ep1, ⟨f1, h1⟩, hr1⟩ := trodAll_cons hr0;obtain ⟨en, rfl, _⟩ := trodAll_nil hr1;have hargs : args = #[v0, v1] := by cases args; simp_all
 clear hA0 hval0;subst hargs;obtain ⟨c0, rfl, _⟩ := okWide_struct Tryz.underlying24 (hval 0 24 v0 rfl rfl);obtain ⟨L0, r0⟩ := Sk.rel_ssn h0;obtain ⟨n1, rfl⟩ := okWide_int Tryz.underlying5 (hval 1 5 v1 rfl rfl);obtain w1 := Sk.rel_u8 h1;refine (Sk.l15i w1 (Sk.memOf W) W [.agg c0, .int .u8 n1] (Sk.memOf_holds hG) ⟨_, _, rfl, Sk.vrel_agg r0 rfl, ⟨_, _, rfl, vrel_of_one (x := .int .u8 n1) (v := .int .u8 n1) rfl rfl, rfl⟩⟩).mono fun e W' ⟨xs, M', he, _, _, hx, ht, _⟩ => ?_
 rw [Sk.retOf_true hx] at he;subst he;refine ⟨_, rfl, Sk.law_post Tryz.laidOut hA hfz rfl rfl Tryz.underlying4 ?_ rfl (Sk.trodAll_lt hA) ht⟩;intro t h;rw [Tryz.params15] at h;simp only [List.mem_cons, List.not_mem_nil, or_false] at h
 rcases h with rfl | rfl
 ·exact ⟨by kernel_rfl, of_decide_eq_true (by kernel_rfl)⟩
 ·exact ⟨by kernel_rfl, of_decide_eq_true (by kernel_rfl)⟩
end Go.Proofs.YtdlfkbpddfeenaaGreatDoor
